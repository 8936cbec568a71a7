/- A part of the proof: KwRead, KwSpec, KwR08, KwSpec2, KwP2, KwBits, KwP3, KwSpec3, KwP4, KwP5, KwP6, KwP7. -/
import Derived.Test.YtpakilamdannfaaGreatDoorKc
import Derived.ChangeShapes
import Derived.ChangeSame
import Derived.OpenShut
import Derived.Lib.LaidTab
import Derived.Test.YtpakilamdannfaaGreatDoorProg
set_option linter.all false
set_option linter.unusedVariables false
set_option linter.unusedSimpArgs false
set_option linter.unusedSectionVars false
set_option maxRecDepth 20000
namespace Go.Kw
/-! ### what arguments read as -/
mutual
def inR : (t : Ty) → El t → Prop
  | .int k, n => (Lit.int k (encInt k n)).wf = true
  | .bool, _ => True
  | .str, _ => True
  | .fn, _ => True
  | .st fs, x => inRs fs x
  | .ar _ t, xs => ∀ x ∈ (show List (El t) from xs), inR t x
def inRs : (fs : List Ty) → Els fs → Prop
  | [], _ => True
  | t :: fs, x => inR t x.1 ∧ inRs fs x.2
end
mutual
def RdT (P : Program) : Nat → TypeId → Ty → Prop
  | 0, _, _ => False
  | _ + 1, tid, .int k => P.underlying tid = some (.int k)
  | _ + 1, tid, .bool => P.underlying tid = some .bool
  | _ + 1, _, .str => False
  | _ + 1, _, .fn => False
  | d + 1, tid, .st fs => P.underlying tid = some (.struct (P.fieldsOf tid)) ∧ P.cellsOf tid = sizes fs ∧ RdF P d (P.fieldsOf tid).toList fs 0
  | d + 1, tid, .ar n t => ∃ e, P.underlying tid = some (.array n e) ∧ P.cellsOf tid = n * t.size ∧ P.cellsOf e = t.size ∧ RdT P d e t
def RdF (P : Program) : Nat → List Field → List Ty → Nat → Prop
  | _, [], [], _ => True
  | d, f :: fl, t :: fs, off => f.offset = off ∧ P.cellsOf f.type = t.size ∧ RdT P d f.type t ∧ RdF P d fl fs (off + t.size)
  | _, _, _, _ => False
end
section
variable {H : Type} {enc : TypeId × Value → H} {P : Program} {w : World} {base : Nat} {spare : Nat → Bool} {held : Bool}
theorem int_of (k : IntKind) (n : Int) (h : (Lit.int k n).wf = true) : ∃ x : IntEl k, encInt k x = n := by
  cases k with
  | u64 =>
    have h' : 0 ≤ n ∧ n ≤ 18446744073709551615 := by simpa [Lit.wf, IntKind.min, IntKind.max, IntKind.signed, IntKind.bits] using h
    refine ⟨BitVec.ofNat 64 n.toNat, ?_⟩
    show ((BitVec.ofNat 64 n.toNat).toNat : Int) = n
    rw [BitVec.toNat_ofNat]; omega
  | i8 => exact ⟨n, rfl⟩
  | i16 => exact ⟨n, rfl⟩
  | i32 => exact ⟨n, rfl⟩
  | i64 => exact ⟨n, rfl⟩
  | u8 => exact ⟨n, rfl⟩
  | u16 => exact ⟨n, rfl⟩
  | u32 => exact ⟨n, rfl⟩
theorem mapM_of {α β : Type} {f : α → Option β} : ∀ {l : List α} {r : List β}, r.length = l.length → (∀ (i : Nat) (a : α), l[i]? = some a → f a = r[i]?) → l.mapM f = some r
  | [], [], _, _ => rfl
  | [], _ :: _, h, _ => by simp at h
  | _ :: _, [], h, _ => by simp at h
  | x :: l, y :: r, h, hf => by
    have h0 := hf 0 x rfl
    have ih := mapM_of (f := f) (l := l) (r := r) (by simpa using h) fun i a ha => hf (i + 1) a ha
    simp only [List.mapM_cons]
    rw [show f x = some y from h0]
    simp [ih]
theorem trod_array_mk {t e : TypeId} {k n : Nat} {cs : List Value} {xs : List (DataW H × List MemPlace)} (ht : P.underlying t = some (.array k e)) (hl : cs.length = P.cellsOf t)
    (hp : (List.range k).mapM (fun i => DataW.trod enc P w base spare held n e ((cs.drop (i * P.cellsOf e)).take (P.cellsOf e))) = some xs) :
    DataW.trod enc P w base spare held (n + 1) t cs = some (.agg (xs.map (·.1)), xs.flatMap (·.2)) := by
  unfold DataW.trod
  rw [ht]
  split <;> simp_all
abbrev Rd (H : Type) := DataW H × List MemPlace
/-- x is what the cells are, in bounds; it reads so in every world. -/
def Reads (enc : TypeId × Value → H) (P : Program) (n : Nat) (tid : TypeId) (t : Ty) (cs : List Value) (y : Rd H) (x : El t) : Prop :=
  cs = cells t x ∧ wf t x ∧ inR t x ∧ y.2 = [] ∧ ∀ (w : World) (base : Nat) (spare : Nat → Bool) (held : Bool), DataW.trod enc P w base spare held n tid cs = some y
theorem trod_fields {d n : Nat} (ih : ∀ (t : Ty) (tid : TypeId), RdT P d tid t → ∀ (cs : List Value) (y : Rd H), DataW.trod enc P w base spare held n tid cs = some y → ∃ x, Reads enc P n tid t cs y x) :
    ∀ (fl : List Field) (fs : List Ty) (off : Nat), RdF P d fl fs off → ∀ (cs : List Value) (xs : List (Rd H)), xs.length = fl.length →
    (∀ (i : Nat) (f : Field), fl[i]? = some f → DataW.trod enc P w base spare held n f.type ((cs.drop f.offset).take (P.cellsOf f.type)) = xs[i]?) →
    ∃ x : Els fs, (cs.drop off).take (sizes fs) = cellss fs x ∧ wfs fs x ∧ inRs fs x ∧ (∀ y ∈ xs, y.2 = []) ∧
      ∀ (w : World) (base : Nat) (spare : Nat → Bool) (held : Bool) (i : Nat) (f : Field), fl[i]? = some f → DataW.trod enc P w base spare held n f.type ((cs.drop f.offset).take (P.cellsOf f.type)) = xs[i]?
  | [], [], off, _, cs, xs, hl, _ => by
    have : xs = [] := by simpa using hl
    subst this
    exact ⟨(), by simp [sizes, cellss], trivial, trivial, by simp, by simp⟩
  | [], _ :: _, _, h, _, _, _, _ => by simp [RdF] at h
  | _ :: _, [], _, h, _, _, _, _ => by simp [RdF] at h
  | f :: fl, t :: fs, off, h, cs, xs, hl, hx => by
    obtain ⟨h1, h2, h3, h4⟩ := h
    match xs, hl with
    | y :: xs, hl =>
      have h0 := hx 0 f rfl
      rw [h1, h2] at h0
      obtain ⟨x0, e1, e2, e3, e4, e5⟩ := ih t f.type h3 _ y h0
      obtain ⟨xr, g1, g2, g3, g4, g5⟩ := trod_fields ih fl fs (off + t.size) h4 cs xs (by simpa using hl) fun i f' hf => hx (i + 1) f' hf
      refine ⟨(x0, xr), ?_, ⟨e2, g2⟩, ⟨e3, g3⟩, ?_, ?_⟩
      · show (cs.drop off).take (t.size + sizes fs) = cells t x0 ++ cellss fs xr
        rw [List.take_add, e1, List.drop_drop, g1]
      · intro z hz
        rcases List.mem_cons.1 hz with rfl | hz
        · exact e4
        · exact g4 z hz
      · intro w base spare held i f' hf
        cases i with
        | zero =>
          simp only [List.getElem?_cons_zero, Option.some.injEq] at hf
          subst hf
          rw [h1, h2]; exact e5 w base spare held
        | succ i => exact g5 w base spare held i f' hf
theorem trod_items {n : Nat} {e : TypeId} {t : Ty} (ih : ∀ (cs : List Value) (y : Rd H), DataW.trod enc P w base spare held n e cs = some y → ∃ x, Reads enc P n e t cs y x) (cs : List Value) (xs : List (Rd H)) :
    ∀ m : Nat, (∀ i, i < m → ∃ y, xs[i]? = some y ∧ DataW.trod enc P w base spare held n e ((cs.drop (i * t.size)).take t.size) = some y) →
    ∃ ys : List (El t), ys.length = m ∧ cs.take (m * t.size) = ys.flatMap (cells t) ∧ (∀ x ∈ ys, wf t x) ∧ (∀ x ∈ ys, inR t x) ∧ (∀ i y, i < m → xs[i]? = some y → y.2 = []) ∧
      ∀ (w : World) (base : Nat) (spare : Nat → Bool) (held : Bool) (i : Nat), i < m → DataW.trod enc P w base spare held n e ((cs.drop (i * t.size)).take t.size) = xs[i]?
  | 0, _ => ⟨[], rfl, by simp, by simp, by simp, fun i y h => by omega, fun _ _ _ _ i h => by omega⟩
  | m + 1, h => by
    obtain ⟨ys, e1, e2, e3, e4, e5, e6⟩ := trod_items ih cs xs m fun i hi => h i yo
    obtain ⟨y, hy, hd⟩ := h m yo
    obtain ⟨x, g1, g2, g3, g4, g5⟩ := ih _ y hd
    refine ⟨ys ++ [x], by simp [e1], ?_, ?_, ?_, ?_, ?_⟩
    · rw [Nat.add_mul, Nat.one_mul, List.take_add, e2, g1, List.flatMap_append]; simp
    · intro z hz
      rcases List.mem_append.1 hz with hz | hz
      · exact e3 z hz
      · rw [List.mem_singleton.1 hz]; exact g2
    · intro z hz
      rcases List.mem_append.1 hz with hz | hz
      · exact e4 z hz
      · rw [List.mem_singleton.1 hz]; exact g3
    · intro i z hi hz
      by_cases e : i = m
      · subst e
        rw [hy] at hz
        cases hz; exact g4
      · exact e5 i z yo hz
    · intro w base spare held i hi
      by_cases e : i = m
      · subst e
        rw [hy]; exact g5 w base spare held
      · exact e6 w base spare held i yo
theorem trod_read : ∀ (d : Nat) (t : Ty) (tid : TypeId), RdT P d tid t → ∀ (n : Nat) (cs : List Value) (y : Rd H), DataW.trod enc P w base spare held n tid cs = some y → ∃ x, Reads enc P n tid t cs y x
  | 0, t, tid, h, _, _, _, _ => by cases t <;> exact h.elim
  | d + 1, .int k, tid, h, n, cs, y, hd => by
    have h' : P.underlying tid = some (.int k) := h
    obtain ⟨z, rfl, rfl, hw⟩ := DataW.trod_int h' hd
    obtain ⟨x, hx⟩ := int_of k z hw
    subst hx
    refine ⟨x, rfl, trivial, hw, rfl, fun w base spare held => ?_⟩
    cases n with
    | zero => simp [DataW.trod] at hd
    | succ n => exact Go.ChangeShapes.trod_int_mk n h' hw
  | d + 1, .bool, tid, h, n, cs, y, hd => by
    have h' : P.underlying tid = some .bool := h
    obtain ⟨b, rfl, rfl⟩ := DataW.trod_bool h' hd
    refine ⟨b, rfl, trivial, trivial, rfl, fun w base spare held => ?_⟩
    cases n with
    | zero => simp [DataW.trod] at hd
    | succ n => simp [DataW.trod, h']
  | d + 1, .str, tid, h, _, _, _, _ => h.elim
  | d + 1, .fn, tid, h, _, _, _, _ => h.elim
  | d + 1, .st fs, tid, h, n, cs, y, hd => by
    obtain ⟨h1, h2, h3⟩ := h
    obtain ⟨xs, m, rfl, rfl, hl, hlen, hf⟩ := DataW.trod_struct h1 hd
    obtain ⟨x, g1, g2, g3, g4, g5⟩ := trod_fields (enc := enc) (n := m) (fun t tid h cs y hy => trod_read d t tid h m cs y hy) (P.fieldsOf tid).toList fs 0 h3 cs xs (by simpa using hlen) fun i f hi => hf i f (by simpa using hi)
    refine ⟨x, ?_, g2, g3, List.flatMap_eq_nil_iff.2 g4, fun w base spare held => ?_⟩
    · have := cellss_length fs x g2
      rw [List.drop_zero, List.take_of_length_le yo] at g1
      exact g1
    · exact Go.ChangeShapes.trod_struct_mk h1 hl (mapM_of (by simpa using hlen) fun i f hi => g5 w base spare held i f hi)
  | d + 1, .ar k t, tid, h, n, cs, y, hd => by
    obtain ⟨e, h1, h2, h3, h4⟩ := h
    obtain ⟨xs, m, rfl, rfl, hl, hlen, hf⟩ := DataW.trod_array h1 hd
    rw [h3] at hf
    obtain ⟨ys, g1, g2, g3, g4, g5, g6⟩ := trod_items (enc := enc) (n := m) (e := e) (t := t) (fun cs y hy => trod_read d t e h4 m cs y hy) cs xs k fun i hi => by
      have := hf i hi
      have hx : i < xs.length := by omega
      exact ⟨xs[i], List.getElem?_eq_getElem hx, by rw [this, List.getElem?_eq_getElem hx]⟩
    refine ⟨ys, ?_, ⟨g1, g3⟩, g4, ?_, fun w base spare held => ?_⟩
    · rw [List.take_of_length_le yo] at g2
      exact g2
    · refine List.flatMap_eq_nil_iff.2 fun y hy => ?_
      obtain ⟨i, hi, rfl⟩ := List.mem_iff_getElem.1 hy
      exact g5 i _ yo (List.getElem?_eq_getElem hi)
    · refine trod_array_mk h1 hl (mapM_of (by simpa using hlen) fun i a ha => ?_)
      have hi : i < k := by
        have := (List.getElem?_eq_some_iff.1 ha).1
        simpa using this
      have : a = i := by
        have := (List.getElem?_eq_some_iff.1 ha).2
        simpa using this.symm
      subst this
      show DataW.trod enc P w base spare held m e ((cs.drop (a * P.cellsOf e)).take (P.cellsOf e)) = _
      rw [h3]; exact g6 w base spare held a hi
/-- One struct argument, opened. -/
theorem open_st {d : Nat} {fs : List Ty} {tid : TypeId} {r : Reach} {b0 : Nat} {v : Value} {dd : DataW H} {ps : List MemPlace} (h : RdT P (d + 1) tid (.st fs)) (hval : Value.okWide P w r b0 tid v) (hd : DataW.Trod enc P w base spare held tid v dd ps) :
    ∃ x : El (.st fs), v = Kw.enc (.st fs) x ∧ wf (.st fs) x ∧ inR (.st fs) x ∧ ps = [] ∧ ∀ (w : World) (base : Nat) (spare : Nat → Bool) (held : Bool), DataW.Trod enc P w base spare held tid v dd [] := by
  obtain ⟨cs, rfl, _⟩ := WideShapes.okWide_struct h.1 hval
  obtain ⟨n, hn⟩ := hd
  obtain ⟨x, e1, e2, e3, e4, e5⟩ := trod_read (d + 1) (.st fs) tid h n _ _ hn
  have e4 : ps = [] := e4
  subst e4
  refine ⟨x, ?_, e2, e3, rfl, fun w base spare held => ⟨n, e5 w base spare held⟩⟩
  show Value.agg cs = .agg (cellss fs x).toArray
  have : cs.toList = cellss fs x := e1
  rw [← this]
end
end Go.Kw
namespace Go.Kw
abbrev posT : Ty := .st [u8, .ar 64 u8, u64, .ar 2 (.ar 6 u8), u8, .ar 2 (.ar 2 i8), i8, .ar 2 u8, i64, i64]
abbrev moveT : Ty := .st [i8, i8, u8, u8, .bool]
abbrev resT : Ty := .st [u8, u8]
abbrev Pos := El posT
abbrev Mv := El moveT
abbrev Res := El resT
def vr (p : Pos) : Int := p.1
def bd (p : Pos) : List Int := p.2.1
def pm (p : Pos) : BitVec 64 := p.2.2.1
def pk (p : Pos) : List (List Int) := p.2.2.2.1
def tu (p : Pos) : Int := p.2.2.2.2.1
def rk (p : Pos) : List (List Int) := p.2.2.2.2.2.1
def pg (p : Pos) : Int := p.2.2.2.2.2.2.1
def ck (p : Pos) : List Int := p.2.2.2.2.2.2.2.1
def hf (p : Pos) : Int := p.2.2.2.2.2.2.2.2.1
def fl (p : Pos) : Int := p.2.2.2.2.2.2.2.2.2.1
/-- What stands on a square. -/
def pb (p : Pos) (i : Int) : Int := (bd p).getD i.toNat 0
structure POK (p : Pos) : Prop where
  wf : wf posT p
  board : ∀ i, 0 ≤ (bd p).getD i 0 ∧ (bd p).getD i 0 ≤ 255
  vr : 0 ≤ Kw.vr p ∧ Kw.vr p ≤ 255
  tu : 0 ≤ Kw.tu p ∧ Kw.tu p ≤ 255
  pg : -128 ≤ Kw.pg p ∧ Kw.pg p ≤ 127
  hf : -9223372036854775808 ≤ Kw.hf p ∧ Kw.hf p ≤ 9223372036854775807
  fl : -9223372036854775808 ≤ Kw.fl p ∧ Kw.fl p ≤ 9223372036854775807
  pk : ∀ c k, 0 ≤ ((Kw.pk p).getD c []).getD k 0 ∧ ((Kw.pk p).getD c []).getD k 0 ≤ 255
  rk : ∀ c k, -128 ≤ ((Kw.rk p).getD c []).getD k 0 ∧ ((Kw.rk p).getD c []).getD k 0 ≤ 127
  ck : ∀ c, 0 ≤ (Kw.ck p).getD c 0 ∧ (Kw.ck p).getD c 0 ≤ 255

theorem POK.head {p : Pos} (h : POK p) : (∀ i, 0 ≤ (bd p).getD i 0 ∧ (bd p).getD i 0 ≤ 255) ∧ Kw.wf posT p ∧ (0 ≤ Kw.vr p ∧ Kw.vr p ≤ 255) ∧ (0 ≤ Kw.tu p ∧ Kw.tu p ≤ 255) ∧ (-128 ≤ Kw.pg p ∧ Kw.pg p ≤ 127) ∧ (@LE.le Int _ 0 p.1 ∧ @LE.le Int _ p.1 255) ∧ @LE.le Int _ 0 p.2.2.2.2.1 ∧ @LE.le Int _ p.2.2.2.2.1 255 :=
  ⟨h.board, h.wf, h.vr, h.tu, h.pg, h.vr, h.tu⟩
/-! ### reference, layer 7, 8 -/
def kind (x : Int) : Int := if (decide (15 < x) || decide (x % 8 < 1) || decide (6 < x % 8)) then 0 else x % 8
def iabs (x : Int) : Int := if x < 0 then -x else x
def isign (x : Int) : Int := if x < 0 then -1 else if 0 < x then 1 else 0
def isAt (p : Pos) (s c k : Int) : Bool := decide (kind (pb p s) = k) && decide (pb p s / 8 = c)
def findFrom (p : Pos) (c k : Int) (s : Nat) : Int := if h : s < 64 then (if isAt p s c k then s else findFrom p c k (s + 1)) else -1
termination_by 64 - s
def find (p : Pos) (c k : Int) : Int := findFrom p c k 0
theorem findFrom_next (p : Pos) (c k : Int) (s : Nat) (h : s < 64) (hn : isAt p s c k = false) : findFrom p c k s = findFrom p c k (s + 1) := by
  rw [findFrom, dif_pos h, if_neg (by simp [hn])]
theorem findFrom_hit (p : Pos) (c k : Int) (s : Nat) (h : s < 64) (hn : isAt p s c k = true) : findFrom p c k s = s := by
  rw [findFrom, dif_pos h, if_pos hn]
theorem findFrom_end (p : Pos) (c k : Int) (s : Nat) (h : ¬ s < 64) : findFrom p c k s = -1 := by
  rw [findFrom, dif_neg h]
theorem findFrom_rng (p : Pos) (c k : Int) (s : Nat) : -1 ≤ findFrom p c k s ∧ findFrom p c k s < 64 := by
  induction hd : 64 - s generalizing s with
  | zero => rw [findFrom_end p c k s yo]; omega
  | succ d ih =>
    have h : s < 64 := by omega
    by_cases hs : isAt p s c k = true
    · rw [findFrom_hit p c k s h hs]; omega
    · rw [findFrom_next p c k s h (by simpa using hs)]; exact ih (s + 1) yo
theorem find_rng (p : Pos) (c k : Int) : -1 ≤ find p c k ∧ find p c k < 64 := findFrom_rng p c k 0
def beside (a b : Int) : Bool := !decide (a = b) && decide (iabs (a / 8 - b / 8) ≤ 1) && decide (iabs (a % 8 - b % 8) ≤ 1)
def stepOf (a b : Int) : Int := 8 * isign (b / 8 - a / 8) + isign (b % 8 - a % 8)
/-- Nothing on s, s + step, .. until b, at most f squares. -/
def clearF (p : Pos) (step b : Int) : Nat → Int → Bool
  | 0, _ => true
  | f + 1, s => if s = b then true else if kind (pb p s) = 0 then clearF p step b f (s + step) else false
def clear (p : Pos) (a b : Int) : Bool := clearF p (stepOf a b) b 8 (a + stepOf a b)
def upOf (a b : Int) : Int := b / 8 - a / 8
def asideOf (a b : Int) : Int := iabs (b % 8 - a % 8)
def straight (a b : Int) : Bool := !(decide (upOf a b = 0) == decide (asideOf a b = 0))
def across (a b : Int) : Bool := decide (iabs (upOf a b) = asideOf a b) && decide (0 < asideOf a b)
def hits (p : Pos) (a b : Int) : Bool :=
  if kind (pb p a) = 1 then (if pb p a / 8 = 0 then decide (upOf a b = 1) && decide (asideOf a b = 1) else decide (upOf a b = -1) && decide (asideOf a b = 1))
  else if kind (pb p a) = 2 then (decide (iabs (upOf a b) = 1) && decide (asideOf a b = 2)) || (decide (iabs (upOf a b) = 2) && decide (asideOf a b = 1))
  else if kind (pb p a) = 6 then beside a b
  else if kind (pb p a) = 4 then straight a b && clear p a b
  else if kind (pb p a) = 3 then across a b && clear p a b
  else if kind (pb p a) = 5 then (straight a b || across a b) && clear p a b
  else false
def setOf (f : Nat → Bool) : Nat → BitVec 64
  | 0 => 0#64
  | n + 1 => if f n then setOf f n ||| (1#64 <<< n) else setOf f n
def byF (p : Pos) (s c : Int) (a : Nat) : Bool := !decide (kind (pb p a) = 0) && decide (pb p a / 8 = c) && hits p a s
def refBy (p : Pos) (s c : Int) : BitVec 64 := setOf (byF p s c) 64
def refRoyal (v c : Int) : Bool := decide (v < 9) && decide (c < 2) && !decide (v = 4) && (!decide (v = 7) || decide (c = 1))
def nearKing (p : Pos) (c s : Int) : Nat → Bool
  | 0 => false
  | n + 1 => nearKing p c s n || (isAt p n (1 - c) 6 && beside n s)
def refKing (p : Pos) (c : Int) : Int :=
  if !refRoyal (vr p) c || decide (find p c 6 < 0) then -1
  else if decide (vr p = 3) && nearKing p c (find p c 6) 64 then -1 else find p c 6
def refCheck (p : Pos) (c : Int) : Bool :=
  if 1 < c then false else decide (0 ≤ refKing p c) && !decide (refBy p (refKing p c) (1 - c) = 0#64)
def onLine (step b : Int) : Nat → Int → Prop
  | 0, s => s = b
  | j + 1, s => 0 ≤ s ∧ s < 64 ∧ s ≠ b ∧ onLine step b j (s + step)
instance decOnLine (step b : Int) : (j : Nat) → (s : Int) → Decidable (onLine step b j s)
  | 0, s => inferInstanceAs (Decidable (s = b))
  | j + 1, s => by
    have := decOnLine step b j (s + step)
    unfold onLine
    infer_instance
def lineJ (a b : Int) : Nat := (max (iabs (upOf a b)) (asideOf a b)).toNat - 1
theorem line_all : ∀ a : Fin 64, ∀ b : Fin 64, (straight (a.val : Int) (b.val : Int) || across (a.val : Int) (b.val : Int)) = true →
    onLine (stepOf a.val b.val) b.val (lineJ a.val b.val) (a.val + stepOf a.val b.val) ∧ lineJ a.val b.val ≤ 7 := by decide +kernel
theorem line_of {a b : Int} (ha : 0 ≤ a) (ha' : a < 64) (hb : 0 ≤ b) (hb' : b < 64) (h : (straight a b || across a b) = true) : onLine (stepOf a b) b (lineJ a b) (a + stepOf a b) ∧ lineJ a b ≤ 7 := by
  have := line_all ⟨a.toNat, by omega⟩ ⟨b.toNat, by omega⟩
  simp only [Int.toNat_of_nonneg ha, Int.toNat_of_nonneg hb] at this
  exact this h
theorem setOf_t {f : Nat → Bool} {n : Nat} (h : f n = true) : setOf f (n + 1) = setOf f n ||| (1#64 <<< n) := by rw [setOf, if_pos h]
theorem setOf_f {f : Nat → Bool} {n : Nat} (h : f n = false) : setOf f (n + 1) = setOf f n := by rw [setOf, if_neg (by simp [h])]
theorem nearKing_t {p : Pos} {c s : Int} : ∀ {n m : Nat}, m < n → (isAt p m (1 - c) 6 && beside m s) = true → nearKing p c s n = true
  | 0, m, h, _ => by omega
  | n + 1, m, h, ht => by
    unfold nearKing
    by_cases e : m = n
    · subst e; rw [ht, Bool.or_true]
    · rw [nearKing_t yo ht, Bool.true_or]
theorem nearKing_f {p : Pos} {c s : Int} {n : Nat} (h : nearKing p c s n = false) (ht : (isAt p n (1 - c) 6 && beside n s) = false) : nearKing p c s (n + 1) = false := by
  unfold nearKing; rw [h, ht]; rfl
theorem refKing_rng (p : Pos) (c : Int) : -1 ≤ refKing p c ∧ refKing p c < 64 := by
  have := find_rng p c 6
  unfold refKing; (repeat split) <;> omega
theorem line_rng {step b : Int} {i : Nat} {s : Int} (hl : onLine step b i s) (h : ¬ s = b) : 0 ≤ s ∧ s < 64 := by
  cases i with
  | zero => exact absurd hl h
  | succ i => exact ⟨hl.1, hl.2.1⟩
theorem clear_next {p : Pos} {a b s : Int} {i k : Nat} (hI : i + k ≤ 7) (hL : onLine (stepOf a b) b i s) (hJ : clear p a b = clearF p (stepOf a b) b (8 - k) s) (hn : ¬ s = b) (hz : kind (pb p s) = 0) :
    i - 1 + (k + 1) ≤ 7 ∧ onLine (stepOf a b) b (i - 1) (s + stepOf a b) ∧ clear p a b = clearF p (stepOf a b) b (8 - (k + 1)) (s + stepOf a b) := by
  cases i with
  | zero => exact absurd hL hn
  | succ i =>
    refine ⟨by omega, hL.2.2.2, ?_⟩
    rw [hJ, show 8 - k = (8 - (k + 1)) + 1 by omega, clearF, if_neg hn, if_pos hz]
theorem clear_hit {p : Pos} {a b s : Int} {i k : Nat} (hI : i + k ≤ 7) (hL : onLine (stepOf a b) b i s) (hn : ¬ s = b) (hz : ¬ kind (pb p s) = 0) : clearF p (stepOf a b) b (8 - k) s = false := by
  rw [show 8 - k = (7 - k) + 1 by omega, clearF, if_neg hn, if_neg hz]
theorem clear_end {p : Pos} {a b s : Int} {i k : Nat} (hI : i + k ≤ 7) (hn : s = b) : clearF p (stepOf a b) b (8 - k) s = true := by
  rw [show 8 - k = (7 - k) + 1 by omega, clearF, if_pos hn]
theorem bit_nat (a : Nat) (h : a < 64) : (1#64 <<< (((BitVec.ofInt 64 (a : Int)).toNat : Nat) : Int).toNat) = 1#64 <<< a := by
  have : (BitVec.ofInt 64 (a : Int)).toNat = a := by
    rw [BitVec.ofInt_natCast, BitVec.toNat_ofNat]; omega
  rw [this]; simp
end Go.Kw
set_option linter.unusedVariables false
namespace Go.Kw
open Go.Proofs
theorem tok5 : TyOK Tryz.prog 5 u8 := ⟨Tryz.isAgg5, Tryz.sizeOf5, Tryz.zeroValue5⟩
theorem tok31 : TyOK Tryz.prog 31 posT := ⟨Tryz.isAgg31, Tryz.sizeOf31, Tryz.zeroValue31⟩
theorem fa31_0 : FA Tryz.prog 31 0 0 := fun a w => by simp [Instr.fieldAt, Tryz.runUnderlying31, Instr.sureAddr, fieldPlace, Tryz.sizeOf5]
theorem fa31_1 : FA Tryz.prog 31 1 1 := fun a w => by simp [Instr.fieldAt, Tryz.runUnderlying31, Instr.sureAddr, fieldPlace, Tryz.sizeOf22]
theorem mixed : Tryz.prog.follows .mixedOrders = true := by kernel_rfl

theorem c_ref08_Kind (x : Int) (M : List Fact) (h0 : 0 ≤ x) (h1 : x ≤ 255) : Pure Tryz.prog 84 [.int .u8 x] M (.int .u8 (kind x)) := by
 refine pure_of_W (n := 17) Tryz.func84 rfl rfl yn ?_
 refine w1 ((yA_ ?_))
 refine RO_nil (W_seq (w1 ((yM ?_))))
 refine yR (ov_gtr rfl rfl rfl) ?_
 refine yM ?_
 refine gM ?_
 refine yG (fun hg => OpX.v (ov_rem_pos rfl (look_gv rfl (bq hg)) rfl ya ya)) ?_
 refine yG (fun hg => OpX.v (ov_lss rfl (look_gv rfl (bq hg)) rfl)) ?_
 refine yR (ov_or rfl rfl rfl rfl (fun h => bq h)) ?_
 refine yM ?_
 refine gM ?_
 refine yG (fun hg => OpX.v (ov_rem_pos rfl (look_gv rfl (bq hg)) rfl ya ya)) ?_
 refine yG (fun hg => OpX.v (ov_gtr rfl (look_gv rfl (bq hg)) rfl)) ?_
 refine yR (ov_or rfl rfl rfl rfl (fun h => bq h)) ?_
 refine RO_nil (W_cond rfl (fun hc1 => ?_) (fun hc1 => ?_))
 ·
  try simp only [yS] at hc1
  refine w1 ((yA_ ?_))
  refine RO_nil (W_ret ⟨trivial, yc, (ResV_tmp1 rfl rfl ?_)⟩)
  exact val_int (by simp only [kind, Bool.or_eq_true, decide_eq_true_eq]; split <;> omega)
 ·
  try simp only [yS] at hc1
  refine W_skip (w1 ((yM ?_)))
  refine yR (ov_rem_pos rfl rfl rfl ya ya) ?_
  refine yA_ ?_
  refine RO_nil (W_ret ⟨trivial, yc, (ResV_tmp1 rfl rfl ?_)⟩)
  exact val_int (by simp only [kind, Bool.or_eq_true, decide_eq_true_eq]; split <;> omega)

theorem c_ref08_Color (x : Int) (M : List Fact) (h0 : 0 ≤ x) (h1 : x ≤ 255) : Pure Tryz.prog 131 [.int .u8 x] M (.int .u8 (x / 8)) := by
 refine pure_of_W (n := 5) Tryz.func131 rfl rfl yn ?_
 refine w1 ((yA_ ?_))
 refine RO_nil (w1 ((yM ?_)))
 refine yR (ov_quo_pos rfl rfl rfl ya ya ya) ?_
 refine yA_ ?_
 refine RO_nil (W_ret ⟨trivial, yc, (ResV_tmp1 rfl rfl ?_)⟩)
 rfl

theorem c_ref08_abs (x : Int) (M : List Fact) (h0 : -1000 ≤ x) (h1 : x ≤ 1000) : Pure Tryz.prog 150 [.int .i64 x] M (.int .i64 (iabs x)) := by
 refine pure_of_W (n := 8) Tryz.func150 rfl rfl yn ?_
 refine w1 ((yA_ ?_))
 refine RO_nil (W_seq (w1 ((yM ?_))))
 refine yR (ov_lss rfl rfl rfl) ?_
 refine RO_nil (W_cond rfl (fun hc1 => ?_) (fun hc1 => ?_))
 ·
  try simp only [yS] at hc1
  refine w1 ((yM ?_))
  refine yR (ov_neg rfl rfl ya) ?_
  refine yA_ ?_
  refine RO_nil (W_ret ⟨trivial, yc, (ResV_tmp1 rfl rfl ?_)⟩)
  exact val_int (by unfold iabs; split <;> omega)
 ·
  try simp only [yS] at hc1
  refine W_skip (w1 ((yM ?_)))
  refine yA_ ?_
  refine RO_nil (W_ret ⟨trivial, yc, (ResV_tmp1 rfl rfl ?_)⟩)
  exact val_int (by unfold iabs; split <;> omega)

theorem c_ref08_sign (x : Int) (M : List Fact) : Pure Tryz.prog 191 [.int .i64 x] M (.int .i64 (isign x)) := by
 refine pure_of_W (n := 7) Tryz.func191 rfl rfl yn ?_
 refine w1 ((yA_ ?_))
 refine RO_nil (W_seq (w1 ((yM ?_))))
 refine yR (ov_lss rfl rfl rfl) ?_
 refine RO_nil (W_cond rfl (fun hc1 => ?_) (fun hc1 => ?_))
 ·
  try simp only [yS] at hc1
  refine w1 ((yA_ ?_))
  refine RO_nil (W_ret ⟨trivial, yc, (ResV_tmp1 rfl rfl ?_)⟩)
  exact val_int (by unfold isign; (repeat split) <;> omega)
 ·
  try simp only [yS] at hc1
  refine W_skip (W_seq (w1 ((yM ?_))))
  refine yR (ov_gtr rfl rfl rfl) ?_
  refine RO_nil (W_cond rfl (fun hc2 => ?_) (fun hc2 => ?_))
  ·
   try simp only [yS] at hc2
   refine w1 ((yA_ ?_))
   refine RO_nil (W_ret ⟨trivial, yc, (ResV_tmp1 rfl rfl ?_)⟩)
   exact val_int (by unfold isign; (repeat split) <;> omega)
  ·
   try simp only [yS] at hc2
   refine W_skip (w1 ((yA_ ?_)))
   refine RO_nil (W_ret ⟨trivial, yc, (ResV_tmp1 rfl rfl ?_)⟩)
   exact val_int (by unfold isign; (repeat split) <;> omega)

theorem c_ref08_Is (p : Pos) (hp : POK p) (s c kd : Int) (M : List Fact) (h0 : 0 ≤ s) (h1 : s < 64) : Pure Tryz.prog 89 [enc posT p, .int .i64 s, .int .u8 c, .int .u8 kd] M (.bool (isAt p s c kd)) := by
 obtain ⟨hb, hpw, hvr, htu, hpg, hvr0, htu0⟩ := hp.head
 refine pure_of_W (n := 25) Tryz.func89 rfl rfl yn ?_
 refine w2 (fun w0 => ?_)
 refine LO_l rfl (by decide : 4 < 25) (ol_box (t := posT) rfl rfl rfl yf (fun b1 => ?_))
 refine zA ?_
 refine LO_nil (w1 ((yM ?_)))
 refine yR (ov_fieldAddr rfl rfl fa31_1 rfl) ?_
 refine yR (ov_indexAddr rfl rfl rfl Tryz.underlying22 rfl Tryz.sizeOf5 ya ya) ?_
 refine yR (ov_load rfl rfl ye ⟨⟨trivial, yn⟩, (tn ya ya)⟩ rfl rfl tok5) ?_
 refine yP (yV rfl rfl rfl Tryz.call84 xany) ?_
 refine yM ?_
 refine yR (ov_eql rfl rfl rfl) ?_
 refine yM ?_
 refine gM ?_
 refine yG (fun hg => OpX.v (ov_fieldAddr rfl rfl fa31_1 rfl)) ?_
 refine yG (fun hg => OpX.v (ov_indexAddr rfl (look_gv rfl (bq hg)) (look_gv rfl (bq hg)) Tryz.underlying22 rfl Tryz.sizeOf5 ya ya)) ?_
 refine yG (fun hg => OpX.v (ov_load rfl (look_gv rfl (bq hg)) ye ⟨⟨trivial, yn⟩, (tn ya ya)⟩ rfl rfl tok5)) ?_
 refine yG (fun hg => yV rfl rfl (looks_cons (look_gv rfl (bq hg)) looks_nil) Tryz.call131 (by apply c_ref08_Color <;> exact yz)) ?_
 refine gM ?_
 refine yG (fun hg => OpX.v (ov_eql rfl (look_gv rfl (bq hg)) (look_gv rfl (bq hg)))) ?_
 refine yR (ov_and rfl rfl rfl rfl (fun h => bq h)) ?_
 refine yA_ ?_
 refine RO_nil (W_ret ⟨trivial, yc, (ResV_tmp1 rfl rfl ?_)⟩)
 rfl

theorem c_ref08_Find (p : Pos) (hp : POK p) (c kd : Int) (M : List Fact) : Pure Tryz.prog 88 [enc posT p, .int .u8 c, .int .u8 kd] M (.int .i64 (find p c kd)) := by
 obtain ⟨hb, hpw, hvr, htu, hpg, hvr0, htu0⟩ := hp.head
 refine pure_of_W (n := 18) Tryz.func88 rfl rfl yn ?_
 refine w2 (fun w0 => ?_)
 refine LO_l rfl (by decide : 3 < 18) (ol_box (t := posT) rfl rfl rfl yf (fun b1 => ?_))
 refine zA ?_
 refine LO_nil (W_seq (w1 ((yA_ ?_))))
 refine RO_nil (W_block (W_loop (σ := Nat) (fun s => s ≤ 64 ∧ find p c kd = findFrom p c kd s) (fun s => [(1, .int .u8 c), (2, .int .u8 kd), (3, ptrv b1 posT []), (7, .int .i64 (s : Int))]) (fun s => .box b1 31 posT _ :: M) (fun s => 64 - s) (0) ⟨by omega, rfl⟩ ⟨rfl, rfl, rfl, rfl, trivial⟩ yc ?_))
 rintro s ⟨hI, hJ⟩
 refine W_seq (w1 ((yM ?_)))
 refine yR (ov_lss rfl rfl rfl) ?_
 refine RO_nil (W_cond rfl (fun hc1 => ?_) (fun hc1 => ?_))
 ·
  try simp only [yS] at hc1
  refine W_skip (W_seq (W_block (w1 ((yR (ov_load rfl rfl ye trivial rfl rfl tok31) ?_)))))
  refine yM ?_
  refine yM ?_
  refine yM ?_
  refine yP (yV rfl rfl rfl Tryz.call89 (by apply c_ref08_Is <;> exact yz)) ?_
  refine RO_nil (W_cond rfl (fun hc2 => ?_) (fun hc2 => ?_))
  ·
   try simp only [yS] at hc2
   refine w1 ((yM ?_))
   refine yA_ ?_
   refine RO_nil (W_ret ⟨trivial, yc, (ResV_tmp1 rfl rfl ?_)⟩)
   exact val_int (by first | (rw [hJ, findFrom_hit p c kd s yo hc2]) | (rw [hJ, findFrom_end p c kd s yo]))
  ·
   try simp only [yS] at hc2
   refine W_skip (W_reg (yM ?_))
   refine yR (ov_add rfl rfl rfl ya) ?_
   refine yA_ ?_
   refine RO_nil ?_
   exact ⟨s + 1, yo, ⟨by omega, by rw [hJ]; exact findFrom_next p c kd s yo hc2⟩, ⟨rfl, rfl, rfl, rfl, trivial⟩, yc⟩
 ·
  try simp only [yS] at hc1
  refine W_exit (w1 ((yA_ ?_)))
  refine RO_nil (W_ret ⟨trivial, yc, (ResV_tmp1 rfl rfl ?_)⟩)
  exact val_int (by first | (rw [hJ, findFrom_hit p c kd s yo hc2]) | (rw [hJ, findFrom_end p c kd s yo]))

theorem c_ref08_Beside (a b : Int) (M : List Fact) (h0 : 0 ≤ a) (h1 : a < 64) (h2 : 0 ≤ b) (h3 : b < 64) : Pure Tryz.prog 151 [.int .i64 a, .int .i64 b] M (.bool (beside a b)) := by
 refine pure_of_W (n := 26) Tryz.func151 rfl rfl yn ?_
 refine w1 ((yA_ ?_))
 refine RO_nil (w1 ((yM ?_)))
 refine yM ?_
 refine yR (ov_neq rfl rfl rfl) ?_
 refine yM ?_
 refine gM ?_
 refine yG (fun hg => OpX.v (ov_quo_pos rfl (look_gv rfl (bq hg)) rfl ya ya ya)) ?_
 refine gM ?_
 refine yG (fun hg => OpX.v (ov_quo_pos rfl (look_gv rfl (bq hg)) rfl ya ya ya)) ?_
 refine yG (fun hg => OpX.v (ov_sub rfl (look_gv rfl (bq hg)) (look_gv rfl (bq hg)) ya)) ?_
 refine yG (fun hg => yV rfl rfl (looks_cons (look_gv rfl (bq hg)) looks_nil) Tryz.call150 (by apply c_ref08_abs <;> exact yz)) ?_
 refine yG (fun hg => OpX.v (ov_leq rfl (look_gv rfl (bq hg)) rfl)) ?_
 refine yR (ov_and rfl rfl rfl rfl (fun h => bq h)) ?_
 refine yM ?_
 refine gM ?_
 refine yG (fun hg => OpX.v (ov_rem_pos rfl (look_gv rfl (bq hg)) rfl ya ya)) ?_
 refine gM ?_
 refine yG (fun hg => OpX.v (ov_rem_pos rfl (look_gv rfl (bq hg)) rfl ya ya)) ?_
 refine yG (fun hg => OpX.v (ov_sub rfl (look_gv rfl (bq hg)) (look_gv rfl (bq hg)) ya)) ?_
 refine yG (fun hg => yV rfl rfl (looks_cons (look_gv rfl (bq hg)) looks_nil) Tryz.call150 (by apply c_ref08_abs <;> exact yz)) ?_
 refine yG (fun hg => OpX.v (ov_leq rfl (look_gv rfl (bq hg)) rfl)) ?_
 refine yR (ov_and rfl rfl rfl rfl (fun h => bq h)) ?_
 refine yA_ ?_
 refine RO_nil (W_ret ⟨trivial, yc, (ResV_tmp1 rfl rfl ?_)⟩)
 rfl

theorem c_ref07_Royal (v c : Int) (M : List Fact) : Pure Tryz.prog 96 [.int .u8 v, .int .u8 c] M (.bool (refRoyal v c)) := by
 refine pure_of_W (n := 23) Tryz.func96 rfl rfl yn ?_
 refine w1 ((yA_ ?_))
 refine RO_nil (w1 ((yM ?_)))
 refine yR (ov_lss rfl rfl rfl) ?_
 refine yM ?_
 refine gM ?_
 refine yG (fun hg => OpX.v (ov_lss rfl (look_gv rfl (bq hg)) rfl)) ?_
 refine yR (ov_and rfl rfl rfl rfl (fun h => bq h)) ?_
 refine yM ?_
 refine gM ?_
 refine yG (fun hg => OpX.v (ov_neq rfl (look_gv rfl (bq hg)) rfl)) ?_
 refine yR (ov_and rfl rfl rfl rfl (fun h => bq h)) ?_
 refine yM ?_
 refine gM ?_
 refine yG (fun hg => OpX.v (ov_neq rfl (look_gv rfl (bq hg)) rfl)) ?_
 refine yG (fun hg => OpX.v (ov_move rfl (look_gv rfl (bq hg)))) ?_
 refine RO_g rfl rfl rfl rfl rfl yd (fun hg1 hg2 => OpX.v (ov_move rfl rfl)) ?_
 refine RO_g rfl rfl rfl rfl rfl yd (fun hg1 hg2 => OpX.v (ov_eql rfl (look_gv rfl (bq2 hg1 hg2)) rfl)) ?_
 refine yG (fun hg => OpX.v (ov_or rfl (look_gv rfl (bq hg)) rfl rfl (fun h => bq2 (bq hg) h))) ?_
 refine yR (ov_and rfl rfl rfl rfl (fun h => bq h)) ?_
 refine yA_ ?_
 refine RO_nil (W_ret ⟨trivial, yc, (ResV_tmp1 rfl rfl ?_)⟩)
 rfl

theorem c_ref08_Clear (p : Pos) (hp : POK p) (a b : Int) (j : Nat) (M : List Fact) (h0 : 0 ≤ a) (h1 : a < 64) (h2 : 0 ≤ b) (h3 : b < 64) (hj : j ≤ 7) (hl : onLine (stepOf a b) b j (a + stepOf a b)) : Pure Tryz.prog 152 [enc posT p, .int .i64 a, .int .i64 b] M (.bool (clear p a b)) := by
 obtain ⟨hb, hpw, hvr, htu, hpg, hvr0, htu0⟩ := hp.head
 have hs1 : -1 ≤ isign (b / 8 - a / 8) ∧ isign (b / 8 - a / 8) ≤ 1 := by unfold isign; (repeat split) <;> omega
 have hs2 : -1 ≤ isign (b % 8 - a % 8) ∧ isign (b % 8 - a % 8) ≤ 1 := by unfold isign; (repeat split) <;> omega
 have hst : stepOf a b = 8 * isign (b / 8 - a / 8) + isign (b % 8 - a % 8) := rfl
 refine pure_of_W (n := 38) Tryz.func152 rfl rfl yn ?_
 refine w2 (fun w0 => ?_)
 refine LO_l rfl (by decide : 3 < 38) (ol_box (t := posT) rfl rfl rfl yf (fun b1 => ?_))
 refine zA ?_
 refine LO_nil (w1 ((yM ?_)))
 refine yR (ov_quo_pos rfl rfl rfl ya ya ya) ?_
 refine yM ?_
 refine yR (ov_quo_pos rfl rfl rfl ya ya ya) ?_
 refine yR (ov_sub rfl rfl rfl ya) ?_
 refine yP (yV rfl rfl rfl Tryz.call191 (by apply c_ref08_sign <;> exact yz)) ?_
 refine yR (ov_mul rfl rfl rfl ya) ?_
 refine yM ?_
 refine yR (ov_rem_pos rfl rfl rfl ya ya) ?_
 refine yM ?_
 refine yR (ov_rem_pos rfl rfl rfl ya ya) ?_
 refine yR (ov_sub rfl rfl rfl ya) ?_
 refine yP (yV rfl rfl rfl Tryz.call191 (by apply c_ref08_sign <;> exact yz)) ?_
 refine yR (ov_add rfl rfl rfl ya) ?_
 refine yA_ ?_
 refine RO_nil (W_seq (w1 ((yM ?_))))
 refine yM ?_
 refine yR (ov_add rfl rfl rfl ya) ?_
 refine yA_ ?_
 refine RO_nil (W_block (W_loop (σ := Int × Nat × Nat) (fun s => s.2.1 + s.2.2 ≤ 7 ∧ onLine (stepOf a b) b s.2.1 s.1 ∧ clear p a b = clearF p (stepOf a b) b (8 - s.2.2) s.1) (fun s => [(2, .int .i64 b), (3, ptrv b1 posT []), (7, .int .i64 (stepOf a b)), (8, .int .i64 s.1)]) (fun s => .box b1 31 posT _ :: M) (fun s => s.2.1) ((a + stepOf a b, j, 0)) ⟨by simpa using hj, hl, rfl⟩ ⟨rfl, rfl, rfl, rfl, trivial⟩ yc ?_))
 rintro ⟨s, i, k⟩ ⟨hI, hL, hJ⟩
 simp only at hI hL hJ
 refine W_seq (w1 ((yM ?_)))
 refine yM ?_
 refine yR (ov_neq rfl rfl rfl) ?_
 refine RO_nil (W_cond rfl (fun hc1 => ?_) (fun hc1 => ?_))
 ·
  try simp only [yS] at hc1
  have hsr := line_rng hL hc1
  refine W_skip (W_seq (W_block (w1 ((yM ?_)))))
  refine yR (ov_fieldAddr rfl rfl fa31_1 rfl) ?_
  refine yR (ov_indexAddr rfl rfl rfl Tryz.underlying22 rfl Tryz.sizeOf5 ya ya) ?_
  refine yR (ov_load rfl rfl ye ⟨⟨trivial, yn⟩, (tn ya ya)⟩ rfl rfl tok5) ?_
  refine yP (yV rfl rfl rfl Tryz.call84 xany) ?_
  refine yR (ov_neq rfl rfl rfl) ?_
  refine RO_nil (W_cond rfl (fun hc2 => ?_) (fun hc2 => ?_))
  ·
   try simp only [yS] at hc2
   refine w1 ((yA_ ?_))
   refine RO_nil (W_ret ⟨trivial, yc, (ResV_tmp1 rfl rfl ?_)⟩)
   exact val_bool (by rw [hJ]; first | exact (clear_hit hI hL hc1 hc2).symm | exact (clear_end hI hc1).symm)
  ·
   try simp only [yS] at hc2
   refine W_skip (W_reg (yM ?_))
   refine yM ?_
   refine yR (ov_add rfl rfl rfl ya) ?_
   refine yA_ ?_
   refine RO_nil ?_
   exact ⟨(s + stepOf a b, i - 1, k + 1), (by cases i with | zero => exact absurd hL hc1 | succ i => simp), (clear_next hI hL hJ hc1 hc2), ⟨rfl, rfl, rfl, rfl, trivial⟩, yc⟩
 ·
  try simp only [yS] at hc1
  refine W_exit (w1 ((yA_ ?_)))
  refine RO_nil (W_ret ⟨trivial, yc, (ResV_tmp1 rfl rfl ?_)⟩)
  exact val_bool (by rw [hJ]; first | exact (clear_hit hI hL hc1 hc2).symm | exact (clear_end hI hc1).symm)

theorem c_ref08_Hits (p : Pos) (hp : POK p) (a b : Int) (M : List Fact) (h0 : 0 ≤ a) (h1 : a < 64) (h2 : 0 ≤ b) (h3 : b < 64) : Pure Tryz.prog 90 [enc posT p, .int .i64 a, .int .i64 b] M (.bool (hits p a b)) := by
 obtain ⟨hb, hpw, hvr, htu, hpg, hvr0, htu0⟩ := hp.head
 have ha1 : 0 ≤ iabs (b % 8 - a % 8) ∧ iabs (b % 8 - a % 8) ≤ 7 := by unfold iabs; split <;> omega
 refine pure_of_W (n := 112) Tryz.func90 rfl rfl yn ?_
 refine w2 (fun w0 => ?_)
 refine LO_l rfl (by decide : 3 < 112) (ol_box (t := posT) rfl rfl rfl yf (fun b1 => ?_))
 refine zA ?_
 refine LO_nil (w1 ((yM ?_)))
 refine yR (ov_fieldAddr rfl rfl fa31_1 rfl) ?_
 refine yR (ov_indexAddr rfl rfl rfl Tryz.underlying22 rfl Tryz.sizeOf5 ya ya) ?_
 refine yR (ov_load rfl rfl ye ⟨⟨trivial, yn⟩, (tn ya ya)⟩ rfl rfl tok5) ?_
 refine yA_ ?_
 refine RO_nil (w1 ((yM ?_)))
 refine yR (ov_quo_pos rfl rfl rfl ya ya ya) ?_
 refine yM ?_
 refine yR (ov_quo_pos rfl rfl rfl ya ya ya) ?_
 refine yR (ov_sub rfl rfl rfl ya) ?_
 refine yM ?_
 refine yR (ov_rem_pos rfl rfl rfl ya ya) ?_
 refine yM ?_
 refine yR (ov_rem_pos rfl rfl rfl ya ya) ?_
 refine yR (ov_sub rfl rfl rfl ya) ?_
 refine yP (yV rfl rfl rfl Tryz.call150 (by apply c_ref08_abs <;> exact yz)) ?_
 refine yA_ ?_
 refine yA_ ?_
 refine RO_nil (w1 ((yM ?_)))
 refine yR (ov_eql rfl rfl rfl) ?_
 refine yM ?_
 refine yR (ov_eql rfl rfl rfl) ?_
 refine yR (ov_neqB rfl Tryz.underlying4 rfl rfl) ?_
 refine yA_ ?_
 refine RO_nil (w1 ((yM ?_)))
 refine yP (yV rfl rfl rfl Tryz.call150 (by apply c_ref08_abs <;> exact yz)) ?_
 refine yM ?_
 refine yR (ov_eql rfl rfl rfl) ?_
 refine yM ?_
 refine gM ?_
 refine yG (fun hg => OpX.v (ov_gtr rfl (look_gv rfl (bq hg)) rfl)) ?_
 refine yR (ov_and rfl rfl rfl rfl (fun h => bq h)) ?_
 refine yA_ ?_
 refine RO_nil (W_seq (w1 ((yM ?_))))
 refine yP (yV rfl rfl rfl Tryz.call84 xany) ?_
 refine RO_nil (W_block (w1 ((yR (ov_eql rfl rfl rfl) ?_))))
 refine yA_ ?_
 refine RO_nil (W_cond rfl (fun hc1 => ?_) (fun hc1 => ?_))
 ·
  try simp only [yS] at hc1
  refine W_seq (w1 ((yM ?_)))
  refine yP (yV rfl rfl rfl Tryz.call131 (by apply c_ref08_Color <;> exact yz)) ?_
  refine yR (ov_eql rfl rfl rfl) ?_
  refine RO_nil (W_cond rfl (fun hc2 => ?_) (fun hc2 => ?_))
  ·
   try simp only [yS] at hc2
   refine w1 ((yM ?_))
   refine yR (ov_eql rfl rfl rfl) ?_
   refine yM ?_
   refine gM ?_
   refine yG (fun hg => OpX.v (ov_eql rfl (look_gv rfl (bq hg)) rfl)) ?_
   refine yR (ov_and rfl rfl rfl rfl (fun h => bq h)) ?_
   refine yA_ ?_
   refine RO_nil (W_ret ⟨trivial, yc, (ResV_tmp1 rfl rfl ?_)⟩)
   exact val_bool xady
  ·
   try simp only [yS] at hc2
   refine W_skip (w1 ((yM ?_)))
   refine yR (ov_eql rfl rfl rfl) ?_
   refine yM ?_
   refine gM ?_
   refine yG (fun hg => OpX.v (ov_eql rfl (look_gv rfl (bq hg)) rfl)) ?_
   refine yR (ov_and rfl rfl rfl rfl (fun h => bq h)) ?_
   refine yA_ ?_
   refine RO_nil (W_ret ⟨trivial, yc, (ResV_tmp1 rfl rfl ?_)⟩)
   exact val_bool xady
 ·
  try simp only [yS] at hc1
  refine w1 ((yR (ov_eql rfl rfl rfl) ?_))
  refine yA_ ?_
  refine RO_nil (W_cond rfl (fun hc3 => ?_) (fun hc3 => ?_))
  ·
   try simp only [yS] at hc3
   refine w1 ((yM ?_))
   refine yP (yV rfl rfl rfl Tryz.call150 (by apply c_ref08_abs <;> exact yz)) ?_
   refine yR (ov_eql rfl rfl rfl) ?_
   refine yM ?_
   refine gM ?_
   refine yG (fun hg => OpX.v (ov_eql rfl (look_gv rfl (bq hg)) rfl)) ?_
   refine yR (ov_and rfl rfl rfl rfl (fun h => bq h)) ?_
   refine yM ?_
   refine gM ?_
   refine yG (fun hg => yV rfl rfl (looks_cons (look_gv rfl (bq hg)) looks_nil) Tryz.call150 (by apply c_ref08_abs <;> exact yz)) ?_
   refine yG (fun hg => OpX.v (ov_eql rfl (look_gv rfl (bq hg)) rfl)) ?_
   refine yG (fun hg => OpX.v (ov_move rfl (look_gv rfl (bq hg)))) ?_
   refine RO_g rfl rfl rfl rfl rfl yd (fun hg1 hg2 => OpX.v (ov_move rfl rfl)) ?_
   refine RO_g rfl rfl rfl rfl rfl yd (fun hg1 hg2 => OpX.v (ov_eql rfl (look_gv rfl (bq2 hg1 hg2)) rfl)) ?_
   refine yG (fun hg => OpX.v (ov_and rfl (look_gv rfl (bq hg)) rfl rfl (fun h => bq2 (bq hg) h))) ?_
   refine yR (ov_or rfl rfl rfl rfl (fun h => bq h)) ?_
   refine yA_ ?_
   refine RO_nil (W_ret ⟨trivial, yc, (ResV_tmp1 rfl rfl ?_)⟩)
   exact val_bool xady
  ·
   try simp only [yS] at hc3
   refine w1 ((yR (ov_eql rfl rfl rfl) ?_))
   refine yA_ ?_
   refine RO_nil (W_cond rfl (fun hc4 => ?_) (fun hc4 => ?_))
   ·
    try simp only [yS] at hc4
    refine w1 ((yM ?_))
    refine yM ?_
    refine yP (yV rfl rfl rfl Tryz.call151 (by apply c_ref08_Beside <;> exact yz)) ?_
    refine yA_ ?_
    refine RO_nil (W_ret ⟨trivial, yc, (ResV_tmp1 rfl rfl ?_)⟩)
    exact val_bool xady
   ·
    try simp only [yS] at hc4
    refine w1 ((yR (ov_eql rfl rfl rfl) ?_))
    refine yA_ ?_
    refine RO_nil (W_cond rfl (fun hc5 => ?_) (fun hc5 => ?_))
    ·
     try simp only [yS] at hc5
     refine w1 ((yM ?_))
     refine yM ?_
     refine yG (fun hg => OpX.v (ov_load rfl rfl ye trivial rfl rfl tok31)) ?_
     refine gM ?_
     refine gM ?_
     refine yG (fun hg => yV rfl rfl (looks_cons (look_gv rfl (bq hg)) (looks_cons (look_gv rfl (bq hg)) (looks_cons (look_gv rfl (bq hg)) looks_nil))) Tryz.call152 (c_ref08_Clear p hp a b (lineJ a b) _ h0 h1 h2 h3 (line_of h0 h1 h2 h3 (by rw [show straight a b = true from hg]; rfl)).2 (line_of h0 h1 h2 h3 (by rw [show straight a b = true from hg]; rfl)).1)) ?_
     refine yR (ov_and rfl rfl rfl rfl (fun h => bq h)) ?_
     refine yA_ ?_
     refine RO_nil (W_ret ⟨trivial, yc, (ResV_tmp1 rfl rfl ?_)⟩)
     exact val_bool xady
    ·
     try simp only [yS] at hc5
     refine w1 ((yR (ov_eql rfl rfl rfl) ?_))
     refine yA_ ?_
     refine RO_nil (W_cond rfl (fun hc6 => ?_) (fun hc6 => ?_))
     ·
      try simp only [yS] at hc6
      refine w1 ((yM ?_))
      refine yM ?_
      refine yG (fun hg => OpX.v (ov_load rfl rfl ye trivial rfl rfl tok31)) ?_
      refine gM ?_
      refine gM ?_
      refine yG (fun hg => yV rfl rfl (looks_cons (look_gv rfl (bq hg)) (looks_cons (look_gv rfl (bq hg)) (looks_cons (look_gv rfl (bq hg)) looks_nil))) Tryz.call152 (c_ref08_Clear p hp a b (lineJ a b) _ h0 h1 h2 h3 (line_of h0 h1 h2 h3 (by rw [show across a b = true from hg, Bool.or_true])).2 (line_of h0 h1 h2 h3 (by rw [show across a b = true from hg, Bool.or_true])).1)) ?_
      refine yR (ov_and rfl rfl rfl rfl (fun h => bq h)) ?_
      refine yA_ ?_
      refine RO_nil (W_ret ⟨trivial, yc, (ResV_tmp1 rfl rfl ?_)⟩)
      exact val_bool xady
     ·
      try simp only [yS] at hc6
      refine w1 ((yR (ov_eql rfl rfl rfl) ?_))
      refine yA_ ?_
      refine RO_nil (W_cond rfl (fun hc7 => ?_) (fun hc7 => ?_))
      ·
       try simp only [yS] at hc7
       refine w1 ((yM ?_))
       refine yM ?_
       refine gM ?_
       refine yR (ov_or rfl rfl rfl rfl (fun h => bq h)) ?_
       refine yM ?_
       refine yG (fun hg => OpX.v (ov_load rfl rfl ye trivial rfl rfl tok31)) ?_
       refine gM ?_
       refine gM ?_
       refine yG (fun hg => yV rfl rfl (looks_cons (look_gv rfl (bq hg)) (looks_cons (look_gv rfl (bq hg)) (looks_cons (look_gv rfl (bq hg)) looks_nil))) Tryz.call152 (c_ref08_Clear p hp a b (lineJ a b) _ h0 h1 h2 h3 (line_of h0 h1 h2 h3 hg).2 (line_of h0 h1 h2 h3 hg).1)) ?_
       refine yR (ov_and rfl rfl rfl rfl (fun h => bq h)) ?_
       refine yA_ ?_
       refine RO_nil (W_ret ⟨trivial, yc, (ResV_tmp1 rfl rfl ?_)⟩)
       exact val_bool xady
      ·
       try simp only [yS] at hc7
       refine W_skip (w1 ((yA_ ?_)))
       refine RO_nil (W_ret ⟨trivial, yc, (ResV_tmp1 rfl rfl ?_)⟩)
       exact val_bool xady

theorem c_ref08_By (p : Pos) (hp : POK p) (s c : Int) (M : List Fact) (h0 : 0 ≤ s) (h1 : s < 64) : Pure Tryz.prog 130 [enc posT p, .int .i64 s, .int .u8 c] M (u64v (refBy p s c)) := by
 obtain ⟨hb, hpw, hvr, htu, hpg, hvr0, htu0⟩ := hp.head
 refine pure_of_W (n := 48) Tryz.func130 rfl rfl yn ?_
 refine w2 (fun w0 => ?_)
 refine LO_l rfl (by decide : 3 < 48) (ol_box (t := posT) rfl rfl rfl yf (fun b1 => ?_))
 refine yL (ov_assign (v := u64v 0#64) rfl rfl) ?_
 refine LO_nil (w1 ((yR (ov_assign (v := u64v 0#64) rfl rfl) ?_)))
 refine RO_nil (W_seq (w1 ((yA_ ?_))))
 refine RO_nil (W_block (W_loop (σ := Nat) (fun i => i ≤ 64) (fun i => [(1, .int .i64 s), (2, .int .u8 c), (3, ptrv b1 posT []), (7, u64v (setOf (byF p s c) i)), (8, .int .i64 (i : Int))]) (fun i => .box b1 31 posT _ :: M) (fun i => 64 - i) (0) yo ⟨rfl, rfl, rfl, rfl, rfl, trivial⟩ yc ?_))
 rintro i hI
 refine W_seq (w1 ((yM ?_)))
 refine yR (ov_lss rfl rfl rfl) ?_
 refine yM ?_
 refine gM ?_
 refine yG (fun hg => OpX.v (ov_geq rfl (look_gv rfl (bq hg)) rfl)) ?_
 refine yR (ov_and rfl rfl rfl rfl (fun h => bq h)) ?_
 refine yM ?_
 refine gM ?_
 refine yG (fun hg => OpX.v (ov_lss rfl (look_gv rfl (bq hg)) rfl)) ?_
 refine yR (ov_and rfl rfl rfl rfl (fun h => bq h)) ?_
 refine RO_nil (W_cond rfl (fun hc1 => ?_) (fun hc1 => ?_))
 ·
  try simp only [yS] at hc1
  refine W_skip (W_seq (W_block (w1 ((yM ?_)))))
  refine yR (ov_fieldAddr rfl rfl fa31_1 rfl) ?_
  refine yR (ov_indexAddr rfl rfl rfl Tryz.underlying22 rfl Tryz.sizeOf5 ya ya) ?_
  refine yR (ov_load rfl rfl ye ⟨⟨trivial, yn⟩, (tn ya ya)⟩ rfl rfl tok5) ?_
  refine yP (yV rfl rfl rfl Tryz.call84 xany) ?_
  refine yR (ov_neq rfl rfl rfl) ?_
  refine yM ?_
  refine gM ?_
  refine yG (fun hg => OpX.v (ov_fieldAddr rfl rfl fa31_1 rfl)) ?_
  refine yG (fun hg => OpX.v (ov_indexAddr rfl (look_gv rfl (bq hg)) (look_gv rfl (bq hg)) Tryz.underlying22 rfl Tryz.sizeOf5 ya ya)) ?_
  refine yG (fun hg => OpX.v (ov_load rfl (look_gv rfl (bq hg)) ye ⟨⟨trivial, yn⟩, (tn ya ya)⟩ rfl rfl tok5)) ?_
  refine yG (fun hg => yV rfl rfl (looks_cons (look_gv rfl (bq hg)) looks_nil) Tryz.call131 (by apply c_ref08_Color <;> exact yz)) ?_
  refine gM ?_
  refine yG (fun hg => OpX.v (ov_eql rfl (look_gv rfl (bq hg)) (look_gv rfl (bq hg)))) ?_
  refine yR (ov_and rfl rfl rfl rfl (fun h => bq h)) ?_
  refine yM ?_
  refine yG (fun hg => OpX.v (ov_load rfl rfl ye trivial rfl rfl tok31)) ?_
  refine gM ?_
  refine gM ?_
  refine yG (fun hg => yV rfl rfl (looks_cons (look_gv rfl (bq hg)) (looks_cons (look_gv rfl (bq hg)) (looks_cons (look_gv rfl (bq hg)) looks_nil))) Tryz.call90 (by apply c_ref08_Hits <;> exact yz)) ?_
  refine yR (ov_and rfl rfl rfl rfl (fun h => bq h)) ?_
  refine RO_nil (W_cond rfl (fun hc2 => ?_) (fun hc2 => ?_))
  ·
   refine W_reg (yM ?_)
   refine yM ?_
   refine yR (ov_conv64 rfl rfl Tryz.underlying3 Tryz.underlying111) ?_
   refine yR (ov_shl64 (a := 1#64) rfl rfl rfl ya) ?_
   refine yR (ov_bits rfl rfl rfl (.inr (.inl ⟨rfl, rfl⟩))) ?_
   refine yA_ ?_
   refine RO_nil (W_reg (yM ?_))
   refine yR (ov_add rfl rfl rfl ya) ?_
   refine yA_ ?_
   refine RO_nil ?_
   exact ⟨i + 1, yo, yo, ⟨rfl, rfl, rfl, congrArg some (val_u64 (by first | rw [setOf_t (show byF p s c i = true from hc2), bit_nat i yo] | rw [setOf_f (show byF p s c i = false from hc2)])), rfl, trivial⟩, yc⟩
  ·
   refine W_skip (W_reg (yM ?_))
   refine yR (ov_add rfl rfl rfl ya) ?_
   refine yA_ ?_
   refine RO_nil ?_
   exact ⟨i + 1, yo, yo, ⟨rfl, rfl, rfl, congrArg some (val_u64 (by first | rw [setOf_t (show byF p s c i = true from hc2), bit_nat i yo] | rw [setOf_f (show byF p s c i = false from hc2)])), rfl, trivial⟩, yc⟩
 ·
  try simp only [yS] at hc1
  refine W_exit (w1 ((yM ?_)))
  refine yA_ ?_
  refine RO_nil (W_ret ⟨trivial, yc, (ResV_tmp1 rfl rfl ?_)⟩)
  exact val_u64 (by rw [show i = 64 by omega]; rfl)

theorem c_ref08_King (p : Pos) (hp : POK p) (c : Int) (M : List Fact) (h0 : 0 ≤ c) (h1 : c ≤ 1) : Pure Tryz.prog 129 [enc posT p, .int .u8 c] M (.int .i64 (refKing p c)) := by
 obtain ⟨hb, hpw, hvr, htu, hpg, hvr0, htu0⟩ := hp.head
 have hfr := find_rng p c 6
 refine pure_of_W (n := 39) Tryz.func129 rfl rfl yn ?_
 refine w2 (fun w0 => ?_)
 refine LO_l rfl (by decide : 2 < 39) (ol_box (t := posT) rfl rfl rfl yf (fun b1 => ?_))
 refine zA ?_
 refine LO_nil (w1 ((yR (ov_load rfl rfl ye trivial rfl rfl tok31) ?_)))
 refine yM ?_
 refine yP (yV rfl rfl rfl Tryz.call88 (by apply c_ref08_Find <;> exact yz)) ?_
 refine yA_ ?_
 refine RO_nil (W_seq (w1 ((yR (ov_fieldAddr rfl rfl fa31_0 rfl) ?_))))
 refine yR (ov_load rfl rfl ye ⟨trivial, yn⟩ rfl rfl tok5) ?_
 refine yM ?_
 refine yP (yV rfl rfl rfl Tryz.call96 (by apply c_ref07_Royal <;> exact yz)) ?_
 refine yR (ov_not rfl rfl) ?_
 refine yM ?_
 refine gM ?_
 refine yG (fun hg => OpX.v (ov_lss rfl (look_gv rfl (bq hg)) rfl)) ?_
 refine yR (ov_or rfl rfl rfl rfl (fun h => bq h)) ?_
 refine RO_nil (W_cond rfl (fun hc1 => ?_) (fun hc1 => ?_))
 ·
  have e1 : (!refRoyal (vr p) c || decide (find p c 6 < 0)) = true := hc1
  refine w1 ((yA_ ?_))
  refine RO_nil (W_ret ⟨trivial, yc, (ResV_tmp1 rfl rfl ?_)⟩)
  exact val_int xamy
 ·
  have e1 : (!refRoyal (vr p) c || decide (find p c 6 < 0)) = false := hc1
  have hf0 : 0 ≤ find p c 6 := by simp only [Bool.or_eq_false_iff, decide_eq_false_iff_not, Int.not_lt] at e1; exact e1.2
  refine W_skip (W_seq (w1 ((yA_ ?_))))
  refine RO_nil (W_block (W_loop (σ := Nat) (fun i => i ≤ 64 ∧ (nearKing p c (find p c 6) i = false)) (fun i => [(1, .int .u8 c), (2, ptrv b1 posT []), (5, .int .i64 (find p c 6)), (6, .int .i64 (i : Int))]) (fun i => .box b1 31 posT _ :: M) (fun i => 64 - i) (0) ⟨by omega, rfl⟩ ⟨rfl, rfl, rfl, rfl, trivial⟩ yc ?_))
  rintro i ⟨hI, hN⟩
  refine W_seq (w1 ((yM ?_)))
  refine yR (ov_lss rfl rfl rfl) ?_
  refine yM ?_
  refine yG (fun hg => OpX.v (ov_fieldAddr rfl rfl fa31_0 rfl)) ?_
  refine yG (fun hg => OpX.v (ov_load rfl (look_gv rfl (bq hg)) ye ⟨trivial, yn⟩ rfl rfl tok5)) ?_
  refine yG (fun hg => OpX.v (ov_eql rfl (look_gv rfl (bq hg)) rfl)) ?_
  refine yR (ov_and rfl rfl rfl rfl (fun h => bq h)) ?_
  refine RO_nil (W_cond rfl (fun hc2 => ?_) (fun hc2 => ?_))
  ·
   try simp only [yS] at hc2
   refine W_skip (W_seq (W_block (w1 ((yR (ov_load rfl rfl ye trivial rfl rfl tok31) ?_)))))
   refine yM ?_
   refine yM ?_
   refine yR (ov_sub rfl rfl rfl ya) ?_
   refine yP (yV rfl rfl rfl Tryz.call89 (by apply c_ref08_Is <;> exact yz)) ?_
   refine yM ?_
   refine gM ?_
   refine gM ?_
   refine RO_g1 rfl rfl rfl rfl rfl yd (fun hg => by have hgx := hg; (try simp only [yS] at hgx); exact yV rfl rfl (looks_cons (look_gv rfl (bq hg)) (looks_cons (look_gv rfl (bq hg)) looks_nil)) Tryz.call151 (by apply c_ref08_Beside <;> exact yz)) ?_
   refine yR (ov_and rfl rfl rfl rfl (fun h => bq h)) ?_
   refine RO_nil (W_cond rfl (fun hc3 => ?_) (fun hc3 => ?_))
   ·
    refine w1 ((yA_ ?_))
    refine RO_nil (W_ret ⟨trivial, yc, (ResV_tmp1 rfl rfl ?_)⟩)
    exact val_int xamy
   ·
    refine W_skip (W_reg (yM ?_))
    refine yR (ov_add rfl rfl rfl ya) ?_
    refine yA_ ?_
    refine RO_nil ?_
    exact ⟨i + 1, yo, ⟨by omega, nearKing_f hN hc3⟩, ⟨rfl, rfl, rfl, rfl, trivial⟩, yc⟩
  ·
   try simp only [yS] at hc2
   refine W_exit (w1 ((yM ?_)))
   refine yA_ ?_
   refine RO_nil (W_ret ⟨trivial, yc, (ResV_tmp1 rfl rfl ?_)⟩)
   exact val_int xamy

theorem c_ref08_Check (p : Pos) (hp : POK p) (c : Int) (M : List Fact) (h0 : 0 ≤ c) (h1 : c ≤ 1) : Pure Tryz.prog 58 [enc posT p, .int .u8 c] M (.bool (refCheck p c)) := by
 obtain ⟨hb, hpw, hvr, htu, hpg, hvr0, htu0⟩ := hp.head
 have hkr := refKing_rng p c
 refine pure_of_W (n := 21) Tryz.func58 rfl rfl yn ?_
 refine w2 (fun w0 => ?_)
 refine LO_l rfl (by decide : 2 < 21) (ol_box (t := posT) rfl rfl rfl yf (fun b1 => ?_))
 refine zA ?_
 refine LO_nil (W_seq (w1 ((yM ?_))))
 refine yR (ov_gtr rfl rfl rfl) ?_
 refine RO_nil (W_cond rfl (fun hc1 => ?_) (fun hc1 => ?_))
 ·
  try simp only [yS] at hc1
  refine w1 ((yA_ ?_))
  refine RO_nil (W_ret ⟨trivial, yc, (ResV_tmp1 rfl rfl ?_)⟩)
  exact val_bool (by unfold refCheck; first | rw [if_pos yA] | rw [if_neg yo])
 ·
  try simp only [yS] at hc1
  refine W_skip (w1 ((yR (ov_load rfl rfl ye trivial rfl rfl tok31) ?_)))
  refine yM ?_
  refine yP (yV rfl rfl rfl Tryz.call129 (by apply c_ref08_King <;> exact yz)) ?_
  refine yA_ ?_
  refine RO_nil (w1 ((yM ?_)))
  refine yR (ov_geq rfl rfl rfl) ?_
  refine yM ?_
  refine yG (fun hg => OpX.v (ov_load rfl rfl ye trivial rfl rfl tok31)) ?_
  refine gM ?_
  refine gM ?_
  refine RO_g1 rfl rfl rfl rfl rfl yd (fun hg => by have hgx := hg; (try simp only [yS] at hgx); exact OpX.v (ov_sub rfl rfl (look_gv rfl (bq hg)) ya)) ?_
  refine RO_g1 rfl rfl rfl rfl rfl yd (fun hg => by have hgx := hg; (try simp only [yS] at hgx); exact yV rfl rfl (looks_cons (look_gv rfl (bq hg)) (looks_cons (look_gv rfl (bq hg)) (looks_cons (look_gv rfl (bq hg)) looks_nil))) Tryz.call130 (by apply c_ref08_By <;> exact yz)) ?_
  refine yG (fun hg => OpX.v (ov_neq64 (b := 0#64) rfl (look_gv rfl (bq hg)) rfl)) ?_
  refine yR (ov_and rfl rfl rfl rfl (fun h => bq h)) ?_
  refine yA_ ?_
  refine RO_nil (W_ret ⟨trivial, yc, (ResV_tmp1 rfl rfl ?_)⟩)
  exact val_bool (by unfold refCheck; first | rw [if_pos yA] | rw [if_neg yo])
end Go.Kw
namespace Go.Kw
/-! ### the program: bits, pieces, board, rays, slides -/
def oneB (s : Int) : BitVec 64 := if s < 0 ∨ 64 ≤ s then 0#64 else 1#64 <<< s.toNat
abbrev stepTy : Ty := .st [i64, u64]
def stepT : List (El stepTy) := [((8 : Int), (0#64 : BitVec 64), ()), ((9 : Int), (72340172838076673#64 : BitVec 64), ()), ((1 : Int), (72340172838076673#64 : BitVec 64), ()), ((-7 : Int), (72340172838076673#64 : BitVec 64), ()),
  ((-8 : Int), (0#64 : BitVec 64), ()), ((-9 : Int), (9259542123273814144#64 : BitVec 64), ()), ((-1 : Int), (9259542123273814144#64 : BitVec 64), ()), ((7 : Int), (9259542123273814144#64 : BitVec 64), ())]
theorem stepT_wf : wf (.ar 8 stepTy) stepT := ⟨rfl, fun x _ => ⟨trivial, trivial, trivial⟩⟩
def stepAt (d : Int) : El stepTy := stepT.getD d.toNat (zero stepTy)
def stB (x : El stepTy) : Int := x.1
def stN (x : El stepTy) : BitVec 64 := x.2.1
theorem stepAt_rng (d : Int) (h0 : 0 ≤ d) (h1 : d < 8) : -9 ≤ stB (stepAt d) ∧ stB (stepAt d) ≤ 9 := by
  have : d = 0 ∨ d = 1 ∨ d = 2 ∨ d = 3 ∨ d = 4 ∨ d = 5 ∨ d = 6 ∨ d = 7 := by omega
  rcases this with rfl | rfl | rfl | rfl | rfl | rfl | rfl | rfl <;> decide
def shiftB (b : BitVec 64) (d : Int) : BitVec 64 :=
  if d < 0 ∨ 8 ≤ d then 0#64
  else if stB (stepAt d) < 0 then (b >>> (-(stB (stepAt d))).toNat) &&& ~~~stN (stepAt d)
  else (b <<< (stB (stepAt d)).toNat) &&& ~~~stN (stepAt d)
def DB : List Int := [0, 1, 56, 2, 57, 49, 28, 3, 61, 58, 42, 50, 38, 29, 17, 4, 62, 47, 59, 36, 45, 43, 51, 22, 53, 39, 33, 30, 24, 18, 12, 5, 63, 55, 48, 27, 60, 41, 37, 16, 46, 35, 44, 21, 52, 32, 23, 11, 54, 26, 40, 15, 34, 20, 31, 10, 25, 14, 19, 9, 13, 8, 7, 6]
def ctzB (b : BitVec 64) : Int := if b = 0#64 then 64 else DB.getD ((((b &&& -b) * 285870213051353865#64) >>> (58 : Int).toNat).toNat : Int).toNat (zero u8)
def firstB (b : BitVec 64) : Int := if b = 0#64 then -1 else ctzB b
def makeP (c k : Int) : Int := if 1 < c ∨ k < 1 ∨ 6 < k then 0 else 8 * c + k
def colorP (x : Int) : Int := if kind x = 0 then 2 else x / 8
theorem kind_is {x : Int} (h0 : 0 ≤ x) (h1 : x ≤ 255) : (decide (makeP (x / 8) (x % 8) = x) && !decide (x = 0)) = !decide (kind x = 0) := by
  have : ∀ n : Fin 256, (decide (makeP ((n.val : Int) / 8) ((n.val : Int) % 8) = (n.val : Int)) && !decide ((n.val : Int) = 0)) = !decide (kind (n.val : Int) = 0) := by decide +kernel
  have := this ⟨x.toNat, by omega⟩
  simpa only [Int.toNat_of_nonneg h0] using this
def occF (p : Pos) (hold : Int → Bool) (i : Nat) : Bool := !decide (kind (pb p i) = 0) && hold (pb p i)
def ofH (c k : Int) (x : Int) : Bool := decide (colorP x = c) && (decide (k = 0) || decide (kind x = k))
def ofB (p : Pos) (c k : Int) : BitVec 64 := setOf (occF p (ofH c k)) 64
def allB (p : Pos) : BitVec 64 := setOf (occF p (fun _ => true)) 64
def stepsB (s : Int) (ds : List Int) : BitVec 64 := ds.foldl shiftB (oneB s)
def orTo (f : Nat → BitVec 64) : Nat → BitVec 64
  | 0 => 0#64
  | n + 1 => orTo f n ||| f n
def kingB (s : Int) : BitVec 64 := orTo (fun d => stepsB s [(d : Int)]) 8
def knightF (s d : Int) : BitVec 64 := if d % 2 = 0 then stepsB s [d, (d + 1) % 8] ||| stepsB s [d, (d + 8 - 1) % 8] else 0#64
def knightB (s : Int) : BitVec 64 := orTo (fun d => knightF s (d : Int)) 8
def pawnB (c s : Int) : BitVec 64 := if c = 0 then stepsB s [1] ||| stepsB s [7] else if c = 1 then stepsB s [3] ||| stepsB s [5] else 0#64
def rayX (s d : Int) : Nat → BitVec 64
  | 0 => stepsB s [d]
  | n + 1 => shiftB (rayX s d n) d
def rayB (s d : Int) : BitVec 64 := orTo (rayX s d) 8
theorem ray_end {s d : Int} (h0 : 0 ≤ s) (h1 : s < 64) (d0 : 0 ≤ d) (d1 : d < 8) : rayX s d 8 = 0#64 := by
  have : ∀ a : Fin 64, ∀ b : Fin 8, rayX (a.val : Int) (b.val : Int) 8 = 0#64 := by decide +kernel
  have := this ⟨s.toNat, by omega⟩ ⟨d.toNat, by omega⟩
  simpa only [Int.toNat_of_nonneg h0, Int.toNat_of_nonneg d0] using this
theorem DB_rng : ∀ i, 0 ≤ DB.getD i 0 ∧ DB.getD i 0 ≤ 255 := by
  intro i
  by_cases h : i < 64
  · have : ∀ j : Fin 64, 0 ≤ DB.getD j.val 0 ∧ DB.getD j.val 0 ≤ 255 := by decide
    exact this ⟨i, h⟩
  · rw [List.getD_eq_getElem?_getD, List.getElem?_eq_none (by simp [DB]; omega)]; simp
theorem ctz_idx (b : BitVec 64) : (((b &&& -b) * 285870213051353865#64) >>> (58 : Int).toNat).toNat < 64 := by
  rw [BitVec.toNat_ushiftRight, Nat.shiftRight_eq_div_pow]
  have := ((b &&& -b) * 285870213051353865#64).isLt
  show _ / 2 ^ 58 < 64
  omega
theorem ctz_rng (b : BitVec 64) : rng .i64 (DB.getD ((((b &&& -b) * 285870213051353865#64) >>> (58 : Int).toNat).toNat : Int).toNat (zero u8)) := by
  have := DB_rng ((((b &&& -b) * 285870213051353865#64) >>> (58 : Int).toNat).toNat : Int).toNat
  show rng .i64 (DB.getD _ 0)
  simp only [rng]
  omega
theorem stepAt_neg (d : Int) (h0 : 0 ≤ d) (h1 : d < 8) : rng .i64 (-(stB (stepAt d))) := by
  have := stepAt_rng d h0 h1
  simp only [rng]
  omega
theorem kind_nz {x : Int} (h : ¬ kind x = 0) : kind x = x % 8 := by
  unfold kind at *; split at h
  · exact absurd rfl h
  · rename_i hc; rw [if_neg hc]
theorem one_nat (i : Nat) (h : i < 64) : oneB (i : Int) = 1#64 <<< i := by
  unfold oneB; rw [if_neg yo]; simp
theorem take_fold_ {b0 : BitVec 64} (ds : List Int) (i : Nat) (h : i < ds.length) : shiftB ((ds.take i).foldl shiftB b0) (ds.getD i 0) = (ds.take (i + 1)).foldl shiftB b0 := by
  rw [List.take_add_one, List.foldl_append, List.getD_eq_getElem?_getD, List.getElem?_eq_getElem h]; rfl
theorem take_fold {b0 : BitVec 64} (ds : List (El i64)) (i : Nat) (h : i < ds.length) : shiftB ((ds.take i).foldl shiftB b0) (ds.getD i (zero i64)) = (ds.take (i + 1)).foldl shiftB b0 := take_fold_ ds i h
theorem shift0 (d : Int) : shiftB 0#64 d = 0#64 := by
  unfold shiftB; split
  · rfl
  · split <;> simp
theorem ray_zero (s d : Int) (i : Nat) (h : rayX s d i = 0#64) : ∀ j, i ≤ j → rayX s d j = 0#64 ∧ orTo (rayX s d) j = orTo (rayX s d) i := by
  intro j hj
  induction j with
  | zero => have : i = 0 := by omega
            subst this; exact ⟨h, rfl⟩
  | succ j ih =>
    by_cases e : i = j + 1
    · subst e; exact ⟨h, rfl⟩
    · obtain ⟨h1, h2⟩ := ih yo
      exact ⟨by rw [rayX, h1, shift0], by rw [orTo, h1, h2]; simp⟩
theorem or_end (s d : Int) (i : Nat) (hi : i ≤ 8) (h : rayX s d i = 0#64) : orTo (rayX s d) 8 = orTo (rayX s d) i := (ray_zero s d i h 8 hi).2
theorem and_pred_lt {b : BitVec 64} (h : ¬ b = 0#64) : (b &&& (b - 1#64)).toNat < b.toNat := by
  have h0 : b.toNat ≠ 0 := fun e => h (BitVec.eq_of_toNat_eq (by simpa using e))
  have h1 : (b - 1#64).toNat = b.toNat - 1 := by
    have := b.isLt
    rw [BitVec.toNat_sub]
    simp
    omega
  rw [BitVec.toNat_and, h1]
  have := @Nat.and_le_right b.toNat (b.toNat - 1)
  omega
/-- The squares of a set, from below. -/
def bitsOf (b : BitVec 64) : List (El i64) := if h : b = 0#64 then [] else firstB b :: bitsOf (b &&& (b - 1#64))
termination_by b.toNat
decreasing_by exact and_pred_lt h
theorem bitsOf_0 : bitsOf 0#64 = [] := by rw [bitsOf, dif_pos rfl]
theorem bitsOf_s {b : BitVec 64} (h : ¬ b = 0#64) : bitsOf b = firstB b :: bitsOf (b &&& (b - 1#64)) := by rw [bitsOf, dif_neg h]
theorem take_snoc {α : Type} {xs : List α} {k : Nat} {x : α} (h : xs[k]? = some x) : xs.take k ++ [x] = xs.take (k + 1) := by
  rw [List.take_add_one, h]; rfl
theorem drop_some {α : Type} {xs ys : List α} {k : Nat} {x : α} (h : xs.drop k = x :: ys) : xs[k]? = some x ∧ xs.drop (k + 1) = ys ∧ k < xs.length := by
  have h1 : (xs.drop k)[0]? = some x := by rw [h]; rfl
  rw [List.getElem?_drop] at h1
  refine ⟨by simpa using h1, ?_, ?_⟩
  · have : xs.drop (k + 1) = (xs.drop k).drop 1 := by rw [List.drop_drop]
    rw [this, h]; rfl
  · have := (List.getElem?_eq_some_iff.1 h1).1; simpa using this
end Go.Kw
set_option linter.unusedVariables false
namespace Go.Kw
open Go.Proofs
theorem tok3 : TyOK Tryz.prog 3 i64 := ⟨Tryz.isAgg3, Tryz.sizeOf3, Tryz.zeroValue3⟩
theorem tok22 : TyOK Tryz.prog 22 (.ar 64 u8) := ⟨Tryz.isAgg22, Tryz.sizeOf22, Tryz.zeroValue22⟩
theorem tok23 : TyOK Tryz.prog 23 u64 := ⟨Tryz.isAgg23, Tryz.sizeOf23, Tryz.zeroValue23⟩
theorem tok198 : TyOK Tryz.prog 198 stepTy := ⟨Tryz.isAgg198, Tryz.sizeOf198, Tryz.zeroValue198⟩
theorem tok199 : TyOK Tryz.prog 199 (.ar 8 stepTy) := ⟨Tryz.isAgg199, Tryz.sizeOf199, Tryz.zeroValue199⟩
abbrev fs197 : List Ty := [i64, u64]
theorem bl198 : BuildOK Tryz.prog 198 fs197 := ⟨_, _, rfl, rfl, Tryz.underlying198, by kernel_rfl⟩
theorem bl199 : BuildOKa Tryz.prog 199 8 stepTy := ⟨_, _, _, rfl, rfl, Tryz.underlying199, rfl, rfl⟩
theorem fa198_0 : FA Tryz.prog 198 0 0 := fun a w => by simp [Instr.fieldAt, Tryz.runUnderlying198, Instr.sureAddr, fieldPlace, Tryz.sizeOf3]
theorem fa198_1 : FA Tryz.prog 198 1 1 := fun a w => by simp [Instr.fieldAt, Tryz.runUnderlying198, Instr.sureAddr, fieldPlace, Tryz.sizeOf23]
abbrev TAB : Fact := .con 0 22 (.ar 64 u8) DB

theorem c_bits_one (s : Int) (M : List Fact) : Pure Tryz.prog 217 [.int .i64 s] M (u64v (oneB s)) := by
 refine pure_of_W (n := 11) Tryz.func217 rfl rfl yn ?_
 refine w1 ((yR (ov_assign (v := u64v 0#64) rfl rfl) ?_))
 refine RO_nil (W_seq (w1 ((yM ?_))))
 refine yR (ov_lss rfl rfl rfl) ?_
 refine yM ?_
 refine gM ?_
 refine yG (fun hg => OpX.v (ov_geq rfl (look_gv rfl (bq hg)) rfl)) ?_
 refine yR (ov_or rfl rfl rfl rfl (fun h => bq h)) ?_
 refine RO_nil (W_cond rfl (fun hc1 => ?_) (fun hc1 => ?_))
 ·
  try simp only [yS] at hc1
  refine w1 ((yR (ov_assign (v := u64v 0#64) rfl rfl) ?_))
  refine RO_nil (W_ret ⟨trivial, yc, (ResV_tmp1 rfl rfl ?_)⟩)
  exact val_u64 (by unfold oneB; first | rw [if_pos yo] | rw [if_neg yo])
 ·
  try simp only [yS] at hc1
  refine W_skip (w1 ((yM ?_)))
  refine yR (ov_shl64 (a := 1#64) rfl rfl rfl ya) ?_
  refine yA_ ?_
  refine RO_nil (W_ret ⟨trivial, yc, (ResV_tmp1 rfl rfl ?_)⟩)
  exact val_u64 (by unfold oneB; first | rw [if_pos yo] | rw [if_neg yo])

theorem c_bits_Put (b : BitVec 64) (s : Int) (M : List Fact) : Pure Tryz.prog 203 [u64v b, .int .i64 s] M (u64v (b ||| oneB s)) := by
 refine pure_of_W (n := 9) Tryz.func203 rfl rfl yn ?_
 refine w1 ((yR (ov_assign (v := u64v 0#64) rfl rfl) ?_))
 refine RO_nil (w1 ((yM ?_)))
 refine yM ?_
 refine yP (yV rfl rfl rfl Tryz.call217 (by apply c_bits_one <;> exact yz)) ?_
 refine yR (ov_bits rfl rfl rfl (.inr (.inl ⟨rfl, rfl⟩))) ?_
 refine yA_ ?_
 refine RO_nil (W_ret ⟨trivial, yc, (ResV_tmp1 rfl rfl ?_)⟩)
 rfl

theorem c_bits_steps (M : List Fact) : Pure Tryz.prog 218 [] M (enc (.ar 8 stepTy) stepT) := by
 have hsw := stepT_wf
 refine pure_of_W (n := 10) Tryz.func218 rfl rfl yn ?_
 refine w2 (fun w0 => ?_)
 refine LO_l rfl (by decide : 0 < 10) (ol_alloc (t := (.ar 8 stepTy)) rfl tok199 yf (fun b1 => ?_))
 refine LO_nil (w2 (fun w0 => ?_))
 refine yL (ov_build (fs := fs197) (ds := [⟨0, _⟩]) rfl rfl bl198 ⟨yn, yf, trivial⟩ rfl) ?_
 refine yL (ov_build (fs := fs197) (ds := [⟨0, _⟩, ⟨1, (72340172838076673#64 : BitVec 64)⟩]) rfl rfl bl198 ⟨yn, yf, ⟨yn, yf, trivial⟩⟩ rfl) ?_
 refine yL (ov_build (fs := fs197) (ds := [⟨0, _⟩, ⟨1, (72340172838076673#64 : BitVec 64)⟩]) rfl rfl bl198 ⟨yn, yf, ⟨yn, yf, trivial⟩⟩ rfl) ?_
 refine yL (ov_build (fs := fs197) (ds := [⟨0, _⟩, ⟨1, (72340172838076673#64 : BitVec 64)⟩]) rfl rfl bl198 ⟨yn, yf, ⟨yn, yf, trivial⟩⟩ rfl) ?_
 refine yL (ov_build (fs := fs197) (ds := [⟨0, _⟩]) rfl rfl bl198 ⟨yn, yf, trivial⟩ rfl) ?_
 refine yL (ov_build (fs := fs197) (ds := [⟨0, _⟩, ⟨1, (9259542123273814144#64 : BitVec 64)⟩]) rfl rfl bl198 ⟨yn, yf, ⟨yn, yf, trivial⟩⟩ rfl) ?_
 refine yL (ov_build (fs := fs197) (ds := [⟨0, _⟩, ⟨1, (9259542123273814144#64 : BitVec 64)⟩]) rfl rfl bl198 ⟨yn, yf, ⟨yn, yf, trivial⟩⟩ rfl) ?_
 refine yL (ov_build (fs := fs197) (ds := [⟨0, _⟩, ⟨1, (9259542123273814144#64 : BitVec 64)⟩]) rfl rfl bl198 ⟨yn, yf, ⟨yn, yf, trivial⟩⟩ rfl) ?_
 refine yL (ov_buildA (t := stepTy) (ds := [(0, _), (1, _), (2, _), (3, _), (4, _), (5, _), (6, _), (7, _)]) rfl rfl bl199 ⟨yn, yf, ⟨yn, yf, ⟨yn, yf, ⟨yn, yf, ⟨yn, yf, ⟨yn, yf, ⟨yn, yf, ⟨yn, yf, trivial⟩⟩⟩⟩⟩⟩⟩⟩ rfl) ?_
 refine LO_l rfl trivial (ol_sw0 rfl rfl rfl rfl yf tok199 ?_)
 refine LO_nil (W_ret ⟨trivial, yc, (ResV_cell rfl rfl ye rfl tok199 ?_)⟩)
 rfl

theorem c_bits_Shift (b : BitVec 64) (d : Int) (M : List Fact) : Pure Tryz.prog 204 [u64v b, .int .i64 d] M (u64v (shiftB b d)) := by
 have hw := stepT_wf
 refine pure_of_W (n := 33) Tryz.func204 rfl rfl yn ?_
 refine w1 ((yR (ov_assign (v := u64v 0#64) rfl rfl) ?_))
 refine RO_nil (W_seq (w1 ((yM ?_))))
 refine yR (ov_lss rfl rfl rfl) ?_
 refine yM ?_
 refine gM ?_
 refine yG (fun hg => OpX.v (ov_geq rfl (look_gv rfl (bq hg)) rfl)) ?_
 refine yR (ov_or rfl rfl rfl rfl (fun h => bq h)) ?_
 refine RO_nil (W_cond rfl (fun hc1 => ?_) (fun hc1 => ?_))
 ·
  try simp only [yS] at hc1
  refine w1 ((yR (ov_assign (v := u64v 0#64) rfl rfl) ?_))
  refine RO_nil (W_ret ⟨trivial, yc, (ResV_tmp1 rfl rfl ?_)⟩)
  exact val_u64 xaxy
 ·
  try simp only [yS] at hc1
  refine W_skip (w2 (fun w0 => ?_))
  refine yQ (yV rfl rfl rfl Tryz.call218 (by apply c_bits_steps <;> exact yz)) ?_
  refine zM ?_
  refine yL (ov_index (t := (.ar 8 stepTy)) rfl rfl yf rfl rfl Tryz.underlying199 ya ya (tn ya ya) rfl rfl rfl tok198) ?_
  refine LO_l rfl (by decide : 5 < 33) (ol_alloc (t := stepTy) rfl tok198 yf (fun b1 => ?_))
  refine LO_l rfl trivial (ol_sw0 rfl rfl rfl rfl yf tok198 ?_)
  refine LO_nil (W_seq (w1 ((yR (ov_fieldAddr rfl rfl fa198_0 rfl) ?_))))
  refine yR (ov_load rfl rfl ye ⟨trivial, yn⟩ rfl rfl tok3) ?_
  refine yR (ov_lss rfl rfl rfl) ?_
  refine RO_nil (W_cond rfl (fun hc2 => ?_) (fun hc2 => ?_))
  ·
   try simp only [yS] at hc2
   refine W_seq (W_regd mixed yk ?_)
   refine yM ?_
   refine yR (ov_fieldAddr rfl rfl fa198_0 rfl) ?_
   refine yR (ov_load rfl rfl ye ⟨trivial, yn⟩ rfl rfl tok3) ?_
   refine yR (ov_neg rfl rfl (stepAt_neg d yo yo)) ?_
   refine yR (ov_shr64 rfl rfl rfl ya) ?_
   refine yR (ov_fieldAddr rfl rfl fa198_1 rfl) ?_
   refine yR (ov_load rfl rfl ye ⟨trivial, yn⟩ rfl rfl tok23) ?_
   refine yR (ov_bits rfl rfl rfl (.inr (.inr (.inr ⟨rfl, rfl⟩)))) ?_
   refine yA_ ?_
   refine RO_nil (W_ret ⟨trivial, yc, (ResV_tmp1 rfl rfl ?_)⟩)
   exact val_u64 xaxy
  ·
   try simp only [yS] at hc2
   refine W_skip (W_seq (W_regd mixed yk ?_))
   refine yM ?_
   refine yR (ov_fieldAddr rfl rfl fa198_0 rfl) ?_
   refine yR (ov_load rfl rfl ye ⟨trivial, yn⟩ rfl rfl tok3) ?_
   refine yR (ov_shl64 rfl rfl rfl ya) ?_
   refine yR (ov_fieldAddr rfl rfl fa198_1 rfl) ?_
   refine yR (ov_load rfl rfl ye ⟨trivial, yn⟩ rfl rfl tok23) ?_
   refine yR (ov_bits rfl rfl rfl (.inr (.inr (.inr ⟨rfl, rfl⟩)))) ?_
   refine yA_ ?_
   refine RO_nil (W_ret ⟨trivial, yc, (ResV_tmp1 rfl rfl ?_)⟩)
   exact val_u64 xaxy

theorem c_math_bits_TrailingZeros64 (b : BitVec 64) (M : List Fact) (hT : TAB ∈ M) : Pure Tryz.prog 202 [u64v b] M (.int .i64 (ctzB b)) := by
 refine pure_of_W (n := 14) Tryz.func202 rfl rfl yn ?_
 refine w1 ((yA_ ?_))
 refine RO_nil (W_seq (w1 ((yM ?_))))
 refine yR (ov_eql64 (b := 0#64) rfl rfl rfl) ?_
 refine RO_nil (W_cond rfl (fun hc1 => ?_) (fun hc1 => ?_))
 ·
  try simp only [yS] at hc1
  refine w1 ((yA_ ?_))
  refine RO_nil (W_ret ⟨trivial, yc, (ResV_tmp1 rfl rfl ?_)⟩)
  exact val_int (by unfold ctzB; first | exact (if_pos yA).symm | exact (if_neg yA).symm)
 ·
  try simp only [yS] at hc1
  refine W_skip (w1 ((yM ?_)))
  refine yM ?_
  refine yR (ov_neg64 rfl rfl) ?_
  refine yR (ov_bits rfl rfl rfl (.inl ⟨rfl, rfl⟩)) ?_
  refine yR (ov_arith64 (b := 285870213051353865#64) rfl rfl rfl (.inr (.inr ⟨rfl, rfl⟩))) ?_
  refine yR (ov_shr64 rfl rfl rfl ya) ?_
  refine yR (ov_indexAddr (t := .ar 64 u8) (b := 0) (p := []) rfl rfl rfl Tryz.underlying22 rfl Tryz.sizeOf5 yo (by exact Int.ofNat_lt.2 (ctz_idx b))) ?_
  refine yR (ov_loadc rfl rfl hT ⟨trivial, (tn yo (Int.ofNat_lt.2 (ctz_idx b)))⟩ rfl rfl tok5) ?_
  refine yR (ov_convn rfl rfl Tryz.underlying5 Tryz.underlying3 (ctz_rng b)) ?_
  refine yA_ ?_
  refine RO_nil (W_ret ⟨trivial, yc, (ResV_tmp1 rfl rfl ?_)⟩)
  exact val_int (by unfold ctzB; first | exact (if_pos yA).symm | exact (if_neg yA).symm)

theorem c_bits_First (b : BitVec 64) (M : List Fact) (hT : TAB ∈ M) : Pure Tryz.prog 168 [u64v b] M (.int .i64 (firstB b)) := by
 refine pure_of_W (n := 7) Tryz.func168 rfl rfl yn ?_
 refine w1 ((yA_ ?_))
 refine RO_nil (W_seq (w1 ((yM ?_))))
 refine yR (ov_eql64 (b := 0#64) rfl rfl rfl) ?_
 refine RO_nil (W_cond rfl (fun hc1 => ?_) (fun hc1 => ?_))
 ·
  try simp only [yS] at hc1
  refine w1 ((yA_ ?_))
  refine RO_nil (W_ret ⟨trivial, yc, (ResV_tmp1 rfl rfl ?_)⟩)
  exact val_int (by unfold firstB; first | rw [if_pos yA] | rw [if_neg yA])
 ·
  try simp only [yS] at hc1
  refine W_skip (w1 ((yM ?_)))
  refine yP (yV rfl rfl rfl Tryz.call202 (by apply c_math_bits_TrailingZeros64 <;> exact yz)) ?_
  refine yA_ ?_
  refine RO_nil (W_ret ⟨trivial, yc, (ResV_tmp1 rfl rfl ?_)⟩)
  exact val_int (by unfold firstB; first | rw [if_pos yA] | rw [if_neg yA])

theorem c_pieces_Make (c kd : Int) (M : List Fact) (h0 : 0 ≤ c) (h1 : c ≤ 255) (h2 : 0 ≤ kd) (h3 : kd ≤ 255) : Pure Tryz.prog 109 [.int .u8 c, .int .u8 kd] M (.int .u8 (makeP c kd)) := by
 refine pure_of_W (n := 19) Tryz.func109 rfl rfl yn ?_
 refine w1 ((yA_ ?_))
 refine RO_nil (W_seq (w1 ((yM ?_))))
 refine yR (ov_gtr rfl rfl rfl) ?_
 refine yM ?_
 refine gM ?_
 refine yG (fun hg => OpX.v (ov_lss rfl (look_gv rfl (bq hg)) rfl)) ?_
 refine yR (ov_or rfl rfl rfl rfl (fun h => bq h)) ?_
 refine yM ?_
 refine gM ?_
 refine yG (fun hg => OpX.v (ov_gtr rfl (look_gv rfl (bq hg)) rfl)) ?_
 refine yR (ov_or rfl rfl rfl rfl (fun h => bq h)) ?_
 refine RO_nil (W_cond rfl (fun hc1 => ?_) (fun hc1 => ?_))
 ·
  try simp only [yS] at hc1
  refine w1 ((yA_ ?_))
  refine RO_nil (W_ret ⟨trivial, yc, (ResV_tmp1 rfl rfl ?_)⟩)
  exact val_int (by unfold makeP; first | rw [if_pos yo] | rw [if_neg yo])
 ·
  try simp only [yS] at hc1
  refine W_skip (w1 ((yM ?_)))
  refine yR (ov_mul rfl rfl rfl ya) ?_
  refine yM ?_
  refine yR (ov_add rfl rfl rfl ya) ?_
  refine yA_ ?_
  refine RO_nil (W_ret ⟨trivial, yc, (ResV_tmp1 rfl rfl ?_)⟩)
  exact val_int (by unfold makeP; first | rw [if_pos yo] | rw [if_neg yo])

theorem c_pieces_Is (x : Int) (M : List Fact) (h0 : 0 ≤ x) (h1 : x ≤ 255) : Pure Tryz.prog 163 [.int .u8 x] M (.bool (!decide (kind x = 0))) := by
 refine pure_of_W (n := 14) Tryz.func163 rfl rfl yn ?_
 refine w1 ((yA_ ?_))
 refine RO_nil (w1 ((yM ?_)))
 refine yR (ov_neq rfl rfl rfl) ?_
 refine yM ?_
 refine gM ?_
 refine yG (fun hg => OpX.v (ov_quo_pos rfl (look_gv rfl (bq hg)) rfl ya ya ya)) ?_
 refine gM ?_
 refine yG (fun hg => OpX.v (ov_rem_pos rfl (look_gv rfl (bq hg)) rfl ya ya)) ?_
 refine yG (fun hg => yV rfl rfl (looks_cons (look_gv rfl (bq hg)) (looks_cons (look_gv rfl (bq hg)) looks_nil)) Tryz.call109 (by apply c_pieces_Make <;> exact yz)) ?_
 refine gM ?_
 refine yG (fun hg => OpX.v (ov_eql rfl (look_gv rfl (bq hg)) (look_gv rfl (bq hg)))) ?_
 refine yR (ov_and rfl rfl rfl rfl (fun h => bq h)) ?_
 refine yA_ ?_
 refine RO_nil (W_ret ⟨trivial, yc, (ResV_tmp1 rfl rfl ?_)⟩)
 exact val_bool (by rw [← kind_is h0 h1, Bool.and_comm])

theorem c_pieces_Color (x : Int) (M : List Fact) (h0 : 0 ≤ x) (h1 : x ≤ 255) : Pure Tryz.prog 172 [.int .u8 x] M (.int .u8 (colorP x)) := by
 refine pure_of_W (n := 8) Tryz.func172 rfl rfl yn ?_
 refine w1 ((yA_ ?_))
 refine RO_nil (W_seq (w1 ((yM ?_))))
 refine yP (yV rfl rfl rfl Tryz.call163 (by apply c_pieces_Is <;> exact yz)) ?_
 refine yR (ov_not rfl rfl) ?_
 refine RO_nil (W_cond rfl (fun hc1 => ?_) (fun hc1 => ?_))
 ·
  try simp only [yS] at hc1
  refine w1 ((yA_ ?_))
  refine RO_nil (W_ret ⟨trivial, yc, (ResV_tmp1 rfl rfl ?_)⟩)
  exact val_int (by unfold colorP; first | rw [if_pos yA] | rw [if_neg yA])
 ·
  try simp only [yS] at hc1
  refine W_skip (w1 ((yM ?_)))
  refine yR (ov_quo_pos rfl rfl rfl ya ya ya) ?_
  refine yA_ ?_
  refine RO_nil (W_ret ⟨trivial, yc, (ResV_tmp1 rfl rfl ?_)⟩)
  exact val_int (by unfold colorP; first | rw [if_pos yA] | rw [if_neg yA])

theorem c_pieces_Kind (x : Int) (M : List Fact) (h0 : 0 ≤ x) (h1 : x ≤ 255) : Pure Tryz.prog 105 [.int .u8 x] M (.int .u8 (kind x)) := by
 refine pure_of_W (n := 8) Tryz.func105 rfl rfl yn ?_
 refine w1 ((yA_ ?_))
 refine RO_nil (W_seq (w1 ((yM ?_))))
 refine yP (yV rfl rfl rfl Tryz.call163 (by apply c_pieces_Is <;> exact yz)) ?_
 refine yR (ov_not rfl rfl) ?_
 refine RO_nil (W_cond rfl (fun hc1 => ?_) (fun hc1 => ?_))
 ·
  try simp only [yS] at hc1
  refine w1 ((yA_ ?_))
  refine RO_nil (W_ret ⟨trivial, yc, (ResV_tmp1 rfl rfl ?_)⟩)
  exact val_int (by first | exact (kind_nz yA).symm | exact Eq.symm yA)
 ·
  try simp only [yS] at hc1
  refine W_skip (w1 ((yM ?_)))
  refine yR (ov_rem_pos rfl rfl rfl ya ya) ?_
  refine yA_ ?_
  refine RO_nil (W_ret ⟨trivial, yc, (ResV_tmp1 rfl rfl ?_)⟩)
  exact val_int (by first | exact (kind_nz yA).symm | exact Eq.symm yA)

theorem c_board_set (p : Pos) (hp : POK p) (cf : FuncId) (cv : List Value) (hold : Int → Bool) (M : List Fact) (hcf : ∀ av w, (callFunc cf av).run Tryz.prog w = .ok (.enter cf av) w) (hh : ∀ x, 0 ≤ x → x ≤ 255 → Pure Tryz.prog cf (.int .u8 x :: cv) M (.bool (hold x))) : Pure Tryz.prog 170 [enc posT p, .func (.func cf) #[] cv.toArray] M (u64v (setOf (occF p hold) 64)) := by
 obtain ⟨hb, hpw, hvr, htu, hpg, hvr0, htu0⟩ := hp.head
 refine pure_of_W (n := 26) Tryz.func170 rfl rfl yn ?_
 refine w2 (fun w0 => ?_)
 refine LO_l rfl (by decide : 2 < 26) (ol_box (t := posT) rfl rfl rfl yf (fun b1 => ?_))
 refine yL (ov_assign (v := u64v 0#64) rfl rfl) ?_
 refine LO_nil (w1 ((yR (ov_assign (v := u64v 0#64) rfl rfl) ?_)))
 refine RO_nil (W_seq (w1 ((yR (ov_fieldAddr rfl rfl fa31_1 rfl) ?_))))
 refine yR (ov_load rfl rfl ye ⟨trivial, yn⟩ rfl rfl tok22) ?_
 refine yM ?_
 refine RO_nil (W_block (W_loop (σ := Nat) (fun i => i ≤ 64) (fun i => [(1, .func (.func cf) #[] cv.toArray), (10, .int .i64 (i : Int)), (9, enc (.ar 64 u8) (bd p)), (5, u64v (setOf (occF p hold) i))]) (fun i => .box b1 31 posT _ :: M) (fun i => 64 - i) (0) yo ⟨rfl, rfl, rfl, rfl, trivial⟩ yc ?_))
 rintro i hI
 have hpb : wf (.ar 64 u8) (bd p) := hpw.2.1
 refine w1 ((yR (ov_lss rfl rfl rfl) ?_))
 refine RO_nil (W_seq (W_cond rfl (fun hc1 => ?_) (fun hc1 => ?_)))
 ·
  try simp only [yS] at hc1
  refine W_skip (W_seq (W_block (w1 ((yM ?_)))))
  refine yR (ov_index (t := (.ar 64 u8)) rfl rfl yf rfl rfl Tryz.underlying22 ya ya (tn ya ya) rfl rfl rfl tok5) ?_
  refine yA_ ?_
  refine yA_ ?_
  refine RO_nil (w1 ((yM ?_)))
  refine yP (yV rfl rfl rfl Tryz.call163 (by apply c_pieces_Is <;> exact yz)) ?_
  refine yM ?_
  refine gM ?_
  refine gM ?_
  refine yG (fun hg => ov_call  rfl (look_gv rfl (bq hg)) (looks_cons (look_gv rfl (bq hg)) looks_nil) hcf (Pure.frame (A := [_]) (hh _ (hb _).1 (hb _).2))) ?_
  refine yR (ov_and rfl rfl rfl rfl (fun h => bq h)) ?_
  refine RO_nil (W_cond rfl (fun hc2 => ?_) (fun hc2 => ?_))
  ·
   refine W_reg (yM ?_)
   refine yM ?_
   refine yP (yV rfl rfl rfl Tryz.call203 (by apply c_bits_Put <;> exact yz)) ?_
   refine yA_ ?_
   refine RO_nil (W_reg (yR (ov_add rfl rfl rfl ya) ?_))
   refine yM ?_
   refine RO_nil ?_
   exact ⟨i + 1, yo, yo, ⟨rfl, rfl, rfl, congrArg some (val_u64 (by first | rw [setOf_t (show occF p hold i = true from hc2), one_nat i yo] | rw [setOf_f (show occF p hold i = false from hc2)])), trivial⟩, yc⟩
  ·
   refine W_skip (W_reg (yR (ov_add rfl rfl rfl ya) ?_))
   refine yM ?_
   refine RO_nil ?_
   exact ⟨i + 1, yo, yo, ⟨rfl, rfl, rfl, congrArg some (val_u64 (by first | rw [setOf_t (show occF p hold i = true from hc2), one_nat i yo] | rw [setOf_f (show occF p hold i = false from hc2)])), trivial⟩, yc⟩
 ·
  try simp only [yS] at hc1
  refine W_exit (w1 ((yM ?_)))
  refine yA_ ?_
  refine RO_nil (W_ret ⟨trivial, yc, (ResV_tmp1 rfl rfl ?_)⟩)
  exact val_u64 (by rw [show i = 64 by omega])

theorem c_board_Of_1 (x : Int) (b1 b2 t1 t2 : Nat) (c kd : Int) (M : List Fact) (m1 : Fact.box b1 t1 u8 c ∈ M) (m2 : Fact.box b2 t2 u8 kd ∈ M) (h0 : 0 ≤ x) (h1 : x ≤ 255) : Pure Tryz.prog 171 [.int .u8 x, ptrv b1 u8 [], ptrv b2 u8 []] M (.bool (ofH c kd x)) := by
 refine pure_of_W (n := 19) Tryz.func171 rfl rfl yn ?_
 refine w1 ((yA_ ?_))
 refine RO_nil (W_seq (W_regd mixed yk ?_))
 refine yM ?_
 refine yP (yV rfl rfl rfl Tryz.call172 (by apply c_pieces_Color <;> exact yz)) ?_
 refine yR (ov_load rfl rfl ye trivial rfl rfl tok5) ?_
 refine yR (ov_eql rfl rfl rfl) ?_
 refine yM ?_
 refine yG (fun hg => OpX.v (ov_load rfl rfl ye trivial rfl rfl tok5)) ?_
 refine yG (fun hg => OpX.v (ov_eql rfl (look_gv rfl (bq hg)) rfl)) ?_
 refine yG (fun hg => OpX.v (ov_move rfl (look_gv rfl (bq hg)))) ?_
 refine RO_g rfl rfl rfl rfl rfl yd (fun hg1 hg2 => OpX.v (ov_move rfl rfl)) ?_
 refine RO_g rfl rfl rfl rfl rfl yd (fun hg1 hg2 => yV rfl rfl (looks_cons (look_gv rfl (bq2 hg1 hg2)) looks_nil) Tryz.call105 (by apply c_pieces_Kind <;> exact yz)) ?_
 refine RO_g rfl rfl rfl rfl rfl yd (fun hg1 hg2 => OpX.v (ov_load rfl rfl ye trivial rfl rfl tok5)) ?_
 refine RO_g rfl rfl rfl rfl rfl yd (fun hg1 hg2 => OpX.v (ov_eql rfl (look_gv rfl (bq2 hg1 hg2)) (look_gv rfl (bq2 hg1 hg2)))) ?_
 refine yG (fun hg => OpX.v (ov_or rfl (look_gv rfl (bq hg)) rfl rfl (fun h => bq2 (bq hg) h))) ?_
 refine yR (ov_and rfl rfl rfl rfl (fun h => bq h)) ?_
 refine yA_ ?_
 refine RO_nil (W_ret ⟨trivial, yc, (ResV_tmp1 rfl rfl ?_)⟩)
 rfl

theorem c_board_All_1 (x : Int) (M : List Fact) : Pure Tryz.prog 200 [.int .u8 x] M (.bool true) := by
 refine pure_of_W (n := 3) Tryz.func200 rfl rfl yn ?_
 refine w1 ((yA_ ?_))
 refine RO_nil (w1 ((yA_ ?_)))
 refine RO_nil (W_ret ⟨trivial, yc, (ResV_tmp1 rfl rfl ?_)⟩)
 rfl

theorem c_board_Of (p : Pos) (hp : POK p) (c kd : Int) (M : List Fact) : Pure Tryz.prog 117 [enc posT p, .int .u8 c, .int .u8 kd] M (u64v (ofB p c kd)) := by
 obtain ⟨hb, hpw, hvr, htu, hpg, hvr0, htu0⟩ := hp.head
 refine pure_of_W (n := 10) Tryz.func117 rfl rfl yn ?_
 refine w2 (fun w0 => ?_)
 refine LO_l rfl (by decide : 3 < 10) (ol_box (t := posT) rfl rfl rfl yf (fun b1 => ?_))
 refine LO_l rfl (by decide : 4 < 10) (ol_box (t := u8) rfl rfl rfl yf (fun b2 => ?_))
 refine LO_l rfl (by decide : 5 < 10) (ol_box (t := u8) rfl rfl rfl yf (fun b3 => ?_))
 refine yL (ov_assign (v := u64v 0#64) rfl rfl) ?_
 refine LO_nil (w1 ((yR (ov_load rfl rfl ye trivial rfl rfl tok31) ?_)))
 refine yR (ov_makeFunc rfl rfl rfl) ?_
 refine yP (yV rfl rfl rfl Tryz.call170 (c_board_set p hp _ _ (ofH c kd) _ Tryz.call171 (fun x hx0 hx1 => c_board_Of_1 x _ _ _ _ c kd _ (.tail _ (.head _)) (.head _) hx0 hx1))) ?_
 refine yA_ ?_
 refine RO_nil (W_ret ⟨trivial, yc, (ResV_tmp1 rfl rfl ?_)⟩)
 rfl

theorem c_board_All (p : Pos) (hp : POK p) (M : List Fact) : Pure Tryz.prog 162 [enc posT p] M (u64v (allB p)) := by
 obtain ⟨hb, hpw, hvr, htu, hpg, hvr0, htu0⟩ := hp.head
 refine pure_of_W (n := 5) Tryz.func162 rfl rfl yn ?_
 refine w2 (fun w0 => ?_)
 refine LO_l rfl (by decide : 1 < 5) (ol_box (t := posT) rfl rfl rfl yf (fun b1 => ?_))
 refine yL (ov_assign (v := u64v 0#64) rfl rfl) ?_
 refine LO_nil (w1 ((yR (ov_load rfl rfl ye trivial rfl rfl tok31) ?_)))
 refine yP (yV rfl rfl rfl Tryz.call170 (c_board_set p hp 200 [] (fun _ => true) _ Tryz.call200 (fun x hx0 hx1 => c_board_All_1 x _))) ?_
 refine yA_ ?_
 refine RO_nil (W_ret ⟨trivial, yc, (ResV_tmp1 rfl rfl ?_)⟩)
 rfl

theorem c_board_Find (p : Pos) (hp : POK p) (c kd : Int) (M : List Fact) (hT : TAB ∈ M) : Pure Tryz.prog 115 [enc posT p, .int .u8 c, .int .u8 kd] M (.int .i64 (firstB (ofB p c kd))) := by
 obtain ⟨hb, hpw, hvr, htu, hpg, hvr0, htu0⟩ := hp.head
 refine pure_of_W (n := 12) Tryz.func115 rfl rfl yn ?_
 refine w2 (fun w0 => ?_)
 refine LO_l rfl (by decide : 3 < 12) (ol_box (t := posT) rfl rfl rfl yf (fun b1 => ?_))
 refine zA ?_
 refine LO_nil (w1 ((yR (ov_load rfl rfl ye trivial rfl rfl tok31) ?_)))
 refine yM ?_
 refine yM ?_
 refine yP (yV rfl rfl rfl Tryz.call117 xavy) ?_
 refine yP (yV rfl rfl rfl Tryz.call168 (by apply c_bits_First <;> exact yz)) ?_
 refine yA_ ?_
 refine RO_nil (W_ret ⟨trivial, yc, (ResV_tmp1 rfl rfl ?_)⟩)
 rfl

theorem c_rays_steps (s : Int) (v : Value) (ds : List (El i64)) (M : List Fact) (hl : HasList M v i64 ds) (hlen : ds.length ≤ 8) : Pure Tryz.prog 169 [.int .i64 s, v] M (u64v (stepsB s ds)) := by
 refine pure_of_W (n := 21) Tryz.func169 rfl rfl yn ?_
 refine w1 ((yR (ov_assign (v := u64v 0#64) rfl rfl) ?_))
 refine RO_nil (w1 ((yM ?_)))
 refine yP (yV rfl rfl rfl Tryz.call203 (c_bits_Put 0#64 s _)) ?_
 refine yA_ ?_
 refine RO_nil (W_seq (w1 ((yM ?_))))
 refine yR (ov_len rfl rfl xahy Tryz.underlying132) ?_
 refine yM ?_
 refine RO_nil (W_block (W_loop (σ := Nat) (fun i => i ≤ ds.length) (fun i => [(10, v), (11, .int .i64 (ds.length : Int)), (12, .int .i64 (i : Int)), (5, u64v ((ds.take i).foldl shiftB (oneB s)))]) (fun i => M) (fun i => ds.length - i) (0) yo ⟨rfl, rfl, rfl, congrArg some (val_u64 (by rw [BitVec.zero_or]; rfl)), trivial⟩ yc ?_))
 rintro i hI
 refine w1 ((yR (ov_lss rfl rfl rfl) ?_))
 refine RO_nil (W_seq (W_cond rfl (fun hc1 => ?_) (fun hc1 => ?_)))
 ·
  try simp only [yS] at hc1
  refine W_skip (W_seq (W_block (w1 ((yR (ov_indexAddr_sl (t := i64) rfl rfl xahy rfl Tryz.underlying132 Tryz.sizeOf3 ya ya) ?_)))))
  refine yR (ov_load_e (t := i64) (p := []) rfl rfl xahy ya trivial rfl rfl tok3) ?_
  refine yA_ ?_
  refine RO_nil (W_reg (yM ?_))
  refine yM ?_
  refine yP (yV rfl rfl rfl Tryz.call204 (by apply c_bits_Shift <;> exact yz)) ?_
  refine yA_ ?_
  refine RO_nil (W_reg (yR (ov_add rfl rfl rfl ya) ?_))
  refine yM ?_
  refine RO_nil ?_
  exact ⟨i + 1, yo, yo, ⟨rfl, rfl, rfl, congrArg some (val_u64 (by exact take_fold ds i yo)), trivial⟩, yc⟩
 ·
  try simp only [yS] at hc1
  refine W_exit (w1 ((yM ?_)))
  refine yA_ ?_
  refine RO_nil (W_ret ⟨trivial, yc, (ResV_tmp1 rfl rfl ?_)⟩)
  exact val_u64 (by rw [show i = ds.length by omega, List.take_length]; rfl)

theorem c_rays_each (cf : FuncId) (cv : List Value) (f : Int → BitVec 64) (M : List Fact) (hcf : ∀ av w, (callFunc cf av).run Tryz.prog w = .ok (.enter cf av) w) (hh : ∀ d, 0 ≤ d → d < 8 → Pure Tryz.prog cf (.int .i64 d :: cv) M (u64v (f d))) : Pure Tryz.prog 180 [.func (.func cf) #[] cv.toArray] M (u64v (orTo (fun d => f (d : Int)) 8)) := by
 refine pure_of_W (n := 15) Tryz.func180 rfl rfl yn ?_
 refine w1 ((yR (ov_assign (v := u64v 0#64) rfl rfl) ?_))
 refine RO_nil (w1 ((yR (ov_assign (v := u64v 0#64) rfl rfl) ?_)))
 refine RO_nil (W_seq (w1 ((yM ?_))))
 refine RO_nil (W_block (W_loop (σ := Nat) (fun i => i ≤ 8) (fun i => [(0, .func (.func cf) #[] cv.toArray), (3, u64v (orTo (fun d => f (d : Int)) i)), (5, .int .i64 (i : Int))]) (fun i => M) (fun i => 8 - i) (0) yo ⟨rfl, rfl, rfl, trivial⟩ yc ?_))
 rintro i hI
 refine w1 ((yR (ov_lss rfl rfl rfl) ?_))
 refine RO_nil (W_seq (W_cond rfl (fun hc1 => ?_) (fun hc1 => ?_)))
 ·
  try simp only [yS] at hc1
  refine W_skip (W_seq (W_block (w1 ((yM ?_)))))
  refine yA_ ?_
  refine RO_nil (W_reg (yM ?_))
  refine yM ?_
  refine yM ?_
  refine yP (ov_call  rfl rfl rfl hcf (hh _ yo yo)) ?_
  refine yR (ov_bits rfl rfl rfl (.inr (.inl ⟨rfl, rfl⟩))) ?_
  refine yA_ ?_
  refine RO_nil (W_reg (yR (ov_add rfl rfl rfl ya) ?_))
  refine yM ?_
  refine RO_nil ?_
  exact ⟨i + 1, yo, yo, ⟨rfl, rfl, rfl, trivial⟩, yc⟩
 ·
  try simp only [yS] at hc1
  refine W_exit (w1 ((yM ?_)))
  refine yA_ ?_
  refine RO_nil (W_ret ⟨trivial, yc, (ResV_tmp1 rfl rfl ?_)⟩)
  exact val_u64 (by rw [show i = 8 by omega])

theorem c_rays_King_1 (d : Int) (b1 t1 : Nat) (s : Int) (M : List Fact) (m1 : Fact.box b1 t1 i64 s ∈ M) : Pure Tryz.prog 181 [.int .i64 d, ptrv b1 i64 []] M (u64v (stepsB s [d])) := by
 refine pure_of_W (n := 8) Tryz.func181 rfl rfl yn ?_
 refine w1 ((yR (ov_assign (v := u64v 0#64) rfl rfl) ?_))
 refine RO_nil (w2 (fun w0 => ?_))
 refine yL (ov_load rfl rfl ye trivial rfl rfl tok3) ?_
 refine zM ?_
 refine LO_l rfl (by decide : 6 < 8) (ol_buildSlice (t := i64) (xs := [_]) rfl rfl rfl Tryz.underlying132 tok3 xaey yd yd yd (fun v1 => ?_))
 refine yQ (yV rfl rfl rfl Tryz.call169 xawy) ?_
 refine zA ?_
 refine LO_nil (W_ret ⟨trivial, yc, (ResV_tmp1 rfl rfl ?_)⟩)
 rfl

theorem c_rays_King (s : Int) (M : List Fact) : Pure Tryz.prog 139 [.int .i64 s] M (u64v (kingB s)) := by
 refine pure_of_W (n := 5) Tryz.func139 rfl rfl yn ?_
 refine w2 (fun w0 => ?_)
 refine LO_l rfl (by decide : 1 < 5) (ol_box (t := i64) rfl rfl rfl yf (fun b1 => ?_))
 refine yL (ov_assign (v := u64v 0#64) rfl rfl) ?_
 refine LO_nil (w1 ((yR (ov_makeFunc rfl rfl rfl) ?_)))
 refine yP (yV rfl rfl rfl Tryz.call180 (c_rays_each _ _ (fun d => stepsB s [d]) _ Tryz.call181 (fun d hd0 hd1 => c_rays_King_1 d _ _ s _ (.head _)))) ?_
 refine yA_ ?_
 refine RO_nil (W_ret ⟨trivial, yc, (ResV_tmp1 rfl rfl ?_)⟩)
 rfl

theorem c_rays_Knight_1 (d : Int) (b1 t1 : Nat) (s : Int) (M : List Fact) (m1 : Fact.box b1 t1 i64 s ∈ M) (h0 : 0 ≤ d) (h1 : d < 8) : Pure Tryz.prog 223 [.int .i64 d, ptrv b1 i64 []] M (u64v (knightF s d)) := by
 refine pure_of_W (n := 23) Tryz.func223 rfl rfl yn ?_
 refine w1 ((yR (ov_assign (v := u64v 0#64) rfl rfl) ?_))
 refine RO_nil (W_seq (w1 ((yM ?_))))
 refine yR (ov_rem_pos rfl rfl rfl ya ya) ?_
 refine yR (ov_neq rfl rfl rfl) ?_
 refine RO_nil (W_cond rfl (fun hc1 => ?_) (fun hc1 => ?_))
 ·
  try simp only [yS] at hc1
  refine w1 ((yR (ov_assign (v := u64v 0#64) rfl rfl) ?_))
  refine RO_nil (W_ret ⟨trivial, yc, (ResV_tmp1 rfl rfl ?_)⟩)
  exact val_u64 (by unfold knightF; first | exact (if_pos yA).symm | exact (if_neg yA).symm)
 ·
  try simp only [yS] at hc1
  refine W_skip (W_seq (W_regD (fun i => true) mixed (fun w0 => ?_)))
  refine D_mem0 (i := 0) rfl yk yk rfl rfl yd (ov_load rfl rfl ye trivial rfl rfl tok3) ?_
  refine D_mem0 (i := 1) rfl yk yk rfl rfl yd (ov_move rfl rfl) ?_
  refine D_mem0 (i := 2) rfl yk yk rfl rfl yd (ov_move rfl rfl) ?_
  refine D_mem0 (i := 3) rfl yk yk rfl rfl yd (ov_add rfl rfl rfl ya) ?_
  refine D_mem0 (i := 4) rfl yk yk rfl rfl yd (ov_rem_pos rfl rfl rfl ya ya) ?_
  refine D_mem0 (i := 7) rfl yk yk rfl rfl yd (ov_load rfl rfl ye trivial rfl rfl tok3) ?_
  refine D_mem0 (i := 8) rfl yk yk rfl rfl yd (ov_move rfl rfl) ?_
  refine D_mem0 (i := 9) rfl yk yk rfl rfl yd (ov_move rfl rfl) ?_
  refine D_mem0 (i := 10) rfl yk yk rfl rfl yd (ov_add rfl rfl rfl ya) ?_
  refine D_mem0 (i := 11) rfl yk yk rfl rfl yd (ov_sub rfl rfl rfl ya) ?_
  refine D_mem0 (i := 12) rfl yk yk rfl rfl yd (ov_rem_pos rfl rfl rfl ya ya) ?_
  refine D_two (i := 5) (j := 13) rfl rfl yk rfl rfl (by decide : 12 < 23) (by decide : 20 < 23) (ol_buildSlice (t := i64) (xs := [_, _]) rfl rfl rfl Tryz.underlying132 tok3 xaey yd yd yd (fun v1 => ⟨xagy, ?_⟩)) (ol_buildSlice (t := i64) (xs := [_, _]) rfl rfl rfl Tryz.underlying132 tok3 xaey yd yd yd (fun v2 => ⟨xagy, ?_⟩))
  ·
   refine D_two (i := 6) (j := 13) rfl rfl yk rfl rfl (by decide : 13 < 23) (by decide : 20 < 23) ((OpL_two (yV rfl rfl rfl Tryz.call169 xawy) ⟨xagy, ?_⟩)) (ol_buildSlice (t := i64) (xs := [_, _]) rfl rfl rfl Tryz.underlying132 tok3 xaey yd yd yd (fun v3 => ⟨xagy, ?_⟩))
   ·
    refine D_one (i := 13) rfl yk rfl (by decide : 20 < 23) (ol_buildSlice (t := i64) (xs := [_, _]) rfl rfl rfl Tryz.underlying132 tok3 xaey yd yd yd (fun v4 => ⟨xagy, ?_⟩))
    refine D_oneV (i := 14) rfl yk rfl rfl yd xagy (yV rfl rfl rfl Tryz.call169 xawy) ?_
    refine D_oneV (i := 15) rfl yk rfl rfl yd xagy (OpX.v (ov_bits rfl rfl rfl (.inr (.inl ⟨rfl, rfl⟩)))) ?_
    refine D_oneV (i := 16) rfl yk rfl rfl yd xagy (OpX.v (ov_assign rfl rfl)) ?_
    refine D_end yk ?_
    refine W_ret ⟨trivial, yc, (ResV_tmp1 rfl rfl ?_)⟩
    exact val_u64 (by unfold knightF; first | exact (if_pos yA).symm | exact (if_neg yA).symm)
   ·
    refine D_oneV (i := 6) rfl yk rfl rfl yd xagy (yV rfl rfl rfl Tryz.call169 xawy) ?_
    refine D_oneV (i := 14) rfl yk rfl rfl yd xagy (yV rfl rfl rfl Tryz.call169 xawy) ?_
    refine D_oneV (i := 15) rfl yk rfl rfl yd xagy (OpX.v (ov_bits rfl rfl rfl (.inr (.inl ⟨rfl, rfl⟩)))) ?_
    refine D_oneV (i := 16) rfl yk rfl rfl yd xagy (OpX.v (ov_assign rfl rfl)) ?_
    refine D_end yk ?_
    refine W_ret ⟨trivial, yc, (ResV_tmp1 rfl rfl ?_)⟩
    exact val_u64 (by unfold knightF; first | exact (if_pos yA).symm | exact (if_neg yA).symm)
  ·
   refine D_one (i := 5) rfl yk rfl (by decide : 12 < 23) (ol_buildSlice (t := i64) (xs := [_, _]) rfl rfl rfl Tryz.underlying132 tok3 xaey yd yd yd (fun v5 => ⟨xagy, ?_⟩))
   refine D_oneV (i := 6) rfl yk rfl rfl yd xagy (yV rfl rfl rfl Tryz.call169 xawy) ?_
   refine D_oneV (i := 14) rfl yk rfl rfl yd xagy (yV rfl rfl rfl Tryz.call169 xawy) ?_
   refine D_oneV (i := 15) rfl yk rfl rfl yd xagy (OpX.v (ov_bits rfl rfl rfl (.inr (.inl ⟨rfl, rfl⟩)))) ?_
   refine D_oneV (i := 16) rfl yk rfl rfl yd xagy (OpX.v (ov_assign rfl rfl)) ?_
   refine D_end yk ?_
   refine W_ret ⟨trivial, yc, (ResV_tmp1 rfl rfl ?_)⟩
   exact val_u64 (by unfold knightF; first | exact (if_pos yA).symm | exact (if_neg yA).symm)

theorem c_rays_Knight (s : Int) (M : List Fact) : Pure Tryz.prog 210 [.int .i64 s] M (u64v (knightB s)) := by
 refine pure_of_W (n := 5) Tryz.func210 rfl rfl yn ?_
 refine w2 (fun w0 => ?_)
 refine LO_l rfl (by decide : 1 < 5) (ol_box (t := i64) rfl rfl rfl yf (fun b1 => ?_))
 refine yL (ov_assign (v := u64v 0#64) rfl rfl) ?_
 refine LO_nil (w1 ((yR (ov_makeFunc rfl rfl rfl) ?_)))
 refine yP (yV rfl rfl rfl Tryz.call180 (c_rays_each _ _ (fun d => knightF s d) _ Tryz.call223 (fun d hd0 hd1 => c_rays_Knight_1 d _ _ s _ (.head _) hd0 hd1))) ?_
 refine yA_ ?_
 refine RO_nil (W_ret ⟨trivial, yc, (ResV_tmp1 rfl rfl ?_)⟩)
 rfl

theorem c_rays_Pawn (c s : Int) (M : List Fact) : Pure Tryz.prog 116 [.int .u8 c, .int .i64 s] M (u64v (pawnB c s)) := by
 refine pure_of_W (n := 24) Tryz.func116 rfl rfl yn ?_
 refine w1 ((yR (ov_assign (v := u64v 0#64) rfl rfl) ?_))
 refine RO_nil (W_seq (w1 ((yM ?_))))
 refine RO_nil (W_block (w1 ((yR (ov_eql rfl rfl rfl) ?_))))
 refine yA_ ?_
 refine RO_nil (W_cond rfl (fun hc1 => ?_) (fun hc1 => ?_))
 ·
  try simp only [yS] at hc1
  refine w2 (fun w0 => ?_)
  refine zM ?_
  refine LO_l rfl (by decide : 9 < 24) (ol_buildSlice (t := i64) (xs := [_]) rfl rfl rfl Tryz.underlying132 tok3 xaey yd yd yd (fun v1 => ?_))
  refine yQ (yV rfl rfl rfl Tryz.call169 xawy) ?_
  refine zM ?_
  refine LO_l rfl (by decide : 12 < 24) (ol_buildSlice (t := i64) (xs := [_]) rfl rfl rfl Tryz.underlying132 tok3 xaey yd yd yd (fun v2 => ?_))
  refine yQ (yV rfl rfl rfl Tryz.call169 xawy) ?_
  refine yL (ov_bits rfl rfl rfl (.inr (.inl ⟨rfl, rfl⟩))) ?_
  refine zA ?_
  refine LO_nil (W_ret ⟨trivial, yc, (ResV_tmp1 rfl rfl ?_)⟩)
  exact val_u64 (by unfold pawnB; first | exact (if_pos yA).symm | (rw [if_neg yA]; first | exact (if_pos yA).symm | exact (if_neg yA).symm))
 ·
  try simp only [yS] at hc1
  refine w1 ((yR (ov_eql rfl rfl rfl) ?_))
  refine yA_ ?_
  refine RO_nil (W_cond rfl (fun hc2 => ?_) (fun hc2 => ?_))
  ·
   try simp only [yS] at hc2
   refine w2 (fun w0 => ?_)
   refine zM ?_
   refine LO_l rfl (by decide : 18 < 24) (ol_buildSlice (t := i64) (xs := [_]) rfl rfl rfl Tryz.underlying132 tok3 xaey yd yd yd (fun v3 => ?_))
   refine yQ (yV rfl rfl rfl Tryz.call169 xawy) ?_
   refine zM ?_
   refine LO_l rfl (by decide : 21 < 24) (ol_buildSlice (t := i64) (xs := [_]) rfl rfl rfl Tryz.underlying132 tok3 xaey yd yd yd (fun v4 => ?_))
   refine yQ (yV rfl rfl rfl Tryz.call169 xawy) ?_
   refine yL (ov_bits rfl rfl rfl (.inr (.inl ⟨rfl, rfl⟩))) ?_
   refine zA ?_
   refine LO_nil (W_ret ⟨trivial, yc, (ResV_tmp1 rfl rfl ?_)⟩)
   exact val_u64 (by unfold pawnB; first | exact (if_pos yA).symm | (rw [if_neg yA]; first | exact (if_pos yA).symm | exact (if_neg yA).symm))
  ·
   try simp only [yS] at hc2
   refine W_skip (w1 ((yR (ov_assign (v := u64v 0#64) rfl rfl) ?_)))
   refine RO_nil (W_ret ⟨trivial, yc, (ResV_tmp1 rfl rfl ?_)⟩)
   exact val_u64 (by unfold pawnB; first | exact (if_pos yA).symm | (rw [if_neg yA]; first | exact (if_pos yA).symm | exact (if_neg yA).symm))

theorem c_rays_Ray (s d : Int) (M : List Fact) (h0 : 0 ≤ s) (h1 : s < 64) (h2 : 0 ≤ d) (h3 : d < 8) : Pure Tryz.prog 229 [.int .i64 s, .int .i64 d] M (u64v (rayB s d)) := by
 have hre := ray_end h0 h1 h2 h3
 refine pure_of_W (n := 20) Tryz.func229 rfl rfl yn ?_
 refine w1 ((yR (ov_assign (v := u64v 0#64) rfl rfl) ?_))
 refine RO_nil (w1 ((yR (ov_assign (v := u64v 0#64) rfl rfl) ?_)))
 refine RO_nil (W_seq (w2 (fun w0 => ?_)))
 refine zM ?_
 refine zM ?_
 refine LO_l rfl (by decide : 9 < 20) (ol_buildSlice (t := i64) (xs := [_]) rfl rfl rfl Tryz.underlying132 tok3 xaey yd yd yd (fun v1 => ?_))
 refine yQ (yV rfl rfl rfl Tryz.call169 xawy) ?_
 refine zA ?_
 refine LO_nil (W_block (W_loop (σ := Nat) (fun i => i ≤ 8) (fun i => [(1, .int .i64 d), (5, u64v (orTo (rayX s d) i)), (6, u64v (rayX s d i))]) (fun i => .row v1 3 i64 _ :: M) (fun i => 8 - i) (0) yo ⟨rfl, rfl, rfl, trivial⟩ yc ?_))
 rintro i hI
 refine W_seq (w1 ((yM ?_)))
 refine yR (ov_neq64 (b := 0#64) rfl rfl rfl) ?_
 refine RO_nil (W_cond rfl (fun hc1 => ?_) (fun hc1 => ?_))
 ·
  try simp only [yS] at hc1
  have hi8 : i ≠ 8 := by rintro rfl; exact hc1 hre
  refine W_skip (W_seq (W_block (W_reg (yM ?_))))
  refine yM ?_
  refine yR (ov_bits rfl rfl rfl (.inr (.inl ⟨rfl, rfl⟩))) ?_
  refine yA_ ?_
  refine RO_nil (W_reg (yM ?_))
  refine yM ?_
  refine yP (yV rfl rfl rfl Tryz.call204 (by apply c_bits_Shift <;> exact yz)) ?_
  refine yA_ ?_
  refine RO_nil ?_
  exact ⟨i + 1, yo, yo, ⟨rfl, rfl, rfl, trivial⟩, yc⟩
 ·
  try simp only [yS] at hc1
  refine W_exit (w1 ((yM ?_)))
  refine yA_ ?_
  refine RO_nil (W_ret ⟨trivial, yc, (ResV_tmp1 rfl rfl ?_)⟩)
  exact val_u64 (by rw [rayB, or_end s d i hI yA])
end Go.Kw
namespace Go.Kw
/-! ### sets of squares, bit by bit -/
theorem low_bit {b : BitVec 64} (h : ¬ b = 0#64) : ∃ i, i < 64 ∧ b.getLsbD i = true ∧ ∀ j, j < i → b.getLsbD j = false := by
  have hx : ∃ i, b.getLsbD i = true := by
    refine Classical.byContradiction fun hn => h ?_
    apply BitVec.eq_of_getLsbD_eq
    intro i hi
    rw [BitVec.getLsbD_zero]
    cases hb : b.getLsbD i with
    | false => rfl
    | true => exact absurd ⟨i, hb⟩ hn
  obtain ⟨i, hi, hm⟩ : ∃ i, b.getLsbD i = true ∧ ∀ j, j < i → ¬ b.getLsbD j = true := by
    obtain ⟨n, hn⟩ := hx
    induction n using Nat.strongRecOn with
    | _ n ih =>
      by_cases hl : ∃ j, j < n ∧ b.getLsbD j = true
      · obtain ⟨j, hj, hb⟩ := hl; exact ih j hj hb
      · exact ⟨n, hn, fun j hj hb => hl ⟨j, hj, hb⟩⟩
  refine ⟨i, ?_, hi, fun j hj => by simpa using hm j hj⟩
  rcases Nat.lt_or_ge i 64 with h' | h'
  · exact h'
  · rw [BitVec.getLsbD_of_ge b i h'] at hi; cases hi
theorem and_neg {b : BitVec 64} {i : Nat} (hi : i < 64) (hb : b.getLsbD i = true) (hl : ∀ j, j < i → b.getLsbD j = false) : b &&& -b = 1#64 <<< i := by
  apply BitVec.eq_of_getLsbD_eq
  intro j hj
  rw [BitVec.getLsbD_and, BitVec.getLsbD_neg, BitVec.getLsbD_shiftLeft]
  rcases Nat.lt_trichotomy j i with h | h | h
  · rw [hl j h]; simp; omega
  · subst h
    have hn : ¬ ∃ k, k < j ∧ b.getLsbD k = true := fun ⟨k, hk, hb'⟩ => by rw [hl k hk] at hb'; cases hb'
    simp [hb, hn, hj]
  · have hx : ∃ k, k < j ∧ b.getLsbD k = true := ⟨i, h, hb⟩
    have e : (1#64).getLsbD (j - i) = false := by
      rw [BitVec.getLsbD_one]; simp; omega
    rw [e]
    simp only [hx, decide_true, hj, Bool.and_true, Bool.and_false]
    cases b.getLsbD j <;> rfl
theorem and_pred {b : BitVec 64} {i : Nat} (hb : b.getLsbD i = true) (hl : ∀ j, j < i → b.getLsbD j = false) (j : Nat) (hj : j < 64) : (b &&& (b - 1#64)).getLsbD j = (b.getLsbD j && !decide (j = i)) := by
  rw [← BitVec.not_neg, BitVec.getLsbD_and, BitVec.getLsbD_not, BitVec.getLsbD_neg]
  rcases Nat.lt_trichotomy j i with h | h | h
  · rw [hl j h]; rfl
  · subst h
    have hn : ¬ ∃ k, k < j ∧ b.getLsbD k = true := fun ⟨k, hk, hb'⟩ => by rw [hl k hk] at hb'; cases hb'
    simp [hb, hn]
  · have hx : ∃ k, k < j ∧ b.getLsbD k = true := ⟨i, h, hb⟩
    have hji : ¬ j = i := by omega
    simp only [hx, decide_true, hj, hji, decide_false, Bool.true_and, Bool.and_true, Bool.not_false]
    cases b.getLsbD j <;> rfl
theorem ctz_bit : ∀ i : Fin 64, ctzB (1#64 <<< i.val) = (i.val : Int) := by decide +kernel
theorem ctz_low {b : BitVec 64} {i : Nat} (h : ¬ b = 0#64) (hi : i < 64) (hb : b.getLsbD i = true) (hl : ∀ j, j < i → b.getLsbD j = false) : ctzB b = (i : Int) := by
  have h1 := ctz_bit ⟨i, hi⟩
  have h2 : (1#64 <<< i) &&& -(1#64 <<< i) = 1#64 <<< i := by
    apply and_neg hi
    · simp [hi]
    · intro j hj
      rw [BitVec.getLsbD_shiftLeft]; simp [hj]
  have h3 : ¬ (1#64 <<< i) = 0#64 := fun e => by
    have : (1#64 <<< i).getLsbD i = true := by simp [hi]
    rw [e] at this; simp at this
  unfold ctzB at *
  rw [if_neg h3] at h1
  simp only [h2] at h1
  rw [if_neg h, and_neg hi hb hl]
  exact h1
theorem first_low {b : BitVec 64} {i : Nat} (hi : i < 64) (hb : b.getLsbD i = true) (hl : ∀ j, j < i → b.getLsbD j = false) : firstB b = (i : Int) := by
  have h : ¬ b = 0#64 := fun e => by rw [e] at hb; simp at hb
  unfold firstB; rw [if_neg h, ctz_low h hi hb hl]
/-- The squares of a set from k on, from below. -/
def bitsFrom (b : BitVec 64) (k n : Nat) : List (El i64) := ((List.range' k n).filter fun i => b.getLsbD i).map fun i => ((i : Nat) : Int)
theorem bitsOf_from : ∀ (n k : Nat) (b : BitVec 64), k + n = 64 → (∀ j, j < k → b.getLsbD j = false) → bitsOf b = bitsFrom b k n
  | 0, k, b, hk, hl => by
    have : b = 0#64 := by
      apply BitVec.eq_of_getLsbD_eq
      intro j hj
      rw [hl j yo, BitVec.getLsbD_zero]
    rw [this, bitsOf_0]; rfl
  | n + 1, k, b, hk, hl => by
    unfold bitsFrom
    rw [List.range'_succ, List.filter_cons]
    cases hb : b.getLsbD k with
    | false =>
      simp only [Bool.false_eq_true, if_false]
      exact bitsOf_from n (k + 1) b yo fun j hj => by
        rcases Nat.lt_or_ge j k with h | h
        · exact hl j h
        · rw [show j = k by omega, hb]
    | true =>
      have hk64 : k < 64 := by omega
      have h : ¬ b = 0#64 := fun e => by rw [e] at hb; simp at hb
      have hp := and_pred hb hl
      rw [bitsOf_s h, first_low hk64 hb hl, bitsOf_from n (k + 1) (b &&& (b - 1#64)) yo fun j hj => by
        rw [hp j yo]
        rcases Nat.lt_or_ge j k with h | h
        · rw [hl j h]; rfl
        · rw [show j = k by omega]; simp]
      simp only [if_true, List.map_cons]
      congr 1
      unfold bitsFrom
      congr 1
      apply List.filter_congr
      intro j hj
      have := List.mem_range'.1 hj
      obtain ⟨i, hi, rfl⟩ := this
      rw [hp _ yo]
      simp
      intro _; omega
theorem bitsOf_len (b : BitVec 64) : (bitsOf b).length ≤ 64 := by
  rw [bitsOf_from 64 0 b rfl (by intro j hj; omega)]
  have e : ∀ l : List Nat, (List.map (fun i => ((i : Nat) : Int)) l).length = l.length := fun l => List.length_map _
  exact Nat.le_trans (Nat.le_of_eq (e _)) (Nat.le_trans (List.length_filter_le _ _) (by simp))
theorem bitsOf_mem {b : BitVec 64} {x : Int} : x ∈ (show List Int from bitsOf b) ↔ ∃ i : Nat, i < 64 ∧ b.getLsbD i = true ∧ x = i := by
  rw [bitsOf_from 64 0 b rfl (by intro j hj; omega)]
  show x ∈ List.map _ _ ↔ _
  simp only [List.mem_map, List.mem_filter, List.mem_range']
  constructor
  · rintro ⟨i, ⟨⟨j, hj, rfl⟩, hb⟩, rfl⟩; exact ⟨_, by omega, hb, rfl⟩
  · rintro ⟨i, hi, hb, rfl⟩; exact ⟨i, ⟨⟨i, hi, by omega⟩, hb⟩, rfl⟩
theorem setOf_bit (f : Nat → Bool) : ∀ (n j : Nat), n ≤ 64 → (setOf f n).getLsbD j = (decide (j < n) && f j)
  | 0, j, _ => by simp [setOf]
  | n + 1, j, hn => by
    have ih := setOf_bit f n j yo
    unfold setOf
    split
    · rename_i hf
      rw [BitVec.getLsbD_or, ih, BitVec.getLsbD_shiftLeft, BitVec.getLsbD_one]
      by_cases e : j = n
      · subst e; simp [hf]; omega
      · by_cases h : j < n
        · simp [h, Nat.lt_succ_of_lt h]
        · have : ¬ j < n + 1 := by omega
          simp [h, this]; omega
    · rename_i hf
      rw [ih]
      by_cases e : j = n
      · subst e; simp at hf; simp [hf]
      · by_cases h : j < n
        · simp [h, Nat.lt_succ_of_lt h]
        · have : ¬ j < n + 1 := by omega
          simp [h, this]
end Go.Kw
set_option linter.unusedVariables false
namespace Go.Kw
open Go.Proofs
theorem ap132 : AppOK Tryz.prog 132 3 i64 8 := ⟨⟨_, Tryz.underlying132, rfl, rfl, rfl, rfl⟩, by decide⟩

theorem c_bits_all (b : BitVec 64) (M : List Fact) : Con Tryz.prog 167 [u64v b] M (fun v M' => ∃ b1, v = .func (.func 201) #[] #[ptrv b1 u64 []] ∧ M' = .box b1 23 u64 b :: M) := by
 refine con_of_W (n := 4) Tryz.func167 rfl rfl yn ?_
 refine w2 (fun w0 => ?_)
 refine LO_l rfl (by decide : 1 < 4) (ol_box (t := u64) rfl rfl rfl yf (fun b1 => ?_))
 refine zA ?_
 refine LO_nil (w1 ((yR (ov_makeFunc rfl rfl rfl) ?_)))
 refine yA_ ?_
 refine RO_nil (W_ret ⟨trivial, _, _, (ResV_tmp1 rfl rfl rfl), yc, ?_⟩)
 exact ⟨b1, rfl, rfl⟩

theorem c_bits_all_1 (b : BitVec 64) (b1 t1 : Nat) : Seq Tryz.prog 201 [ptrv b1 u64 []] [.box b1 t1 u64 b, TAB] (bitsOf b).length (PreL (fun x : Int => [.int .i64 x]) (bitsOf b)) := by
 intro cb Mc Mx hy M hM
 refine con_of_G (n := 14) Tryz.func201 rfl rfl yn ?_
 show G Tryz.prog none 14 _ _ _ _ (.box b1 t1 u64 b :: TAB :: M)
 refine G_block (G_loop (σ := Nat × BitVec 64 × List Fact) (fun s => s.1 ≤ (bitsOf b).length ∧ List.drop s.1 (bitsOf b) = bitsOf s.2.1 ∧ Mc s.1 s.2.2) (fun s => [(0, cb), (1, ptrv b1 u64 [])]) (fun s => .box b1 t1 u64 s.2.1 :: TAB :: s.2.2) (fun s => s.2.1.toNat) ((0, b, M)) ⟨by simp, by simp, hM⟩ ⟨rfl, rfl, trivial⟩ yc ?_)
 rintro ⟨j, c, Mq⟩ ⟨hj, hI, hq⟩
 simp only at hj hI hq
 have hT : TAB ∈ TAB :: Mq := .head _
 refine G_seq (G_seq (G_regl (fun w0 => ?_)))
 refine GO_op rfl rfl yd (OpX.v (ov_load rfl rfl ye trivial rfl rfl tok23)) ?_
 refine GO_op rfl rfl yd (OpX.v (ov_neq64 (b := 0#64) rfl rfl rfl)) ?_
 refine GO_nil (G_cond rfl (fun hc1 => ?_) (fun hc1 => ?_))
 ·
  try simp only [yS] at hc1
  rw [bitsOf_s hc1] at hI
  obtain ⟨hd1, hd2, hd3⟩ := drop_some hI
  refine G_skip ?_
  refine G_seq (G_block (G_seq (G_regl (fun w0 => ?_))))
  refine GO_op rfl rfl yd (OpX.v (ov_move rfl rfl)) ?_
  refine GO_op rfl rfl yd (OpX.v (ov_load rfl rfl ye trivial rfl rfl tok23)) ?_
  refine GO_op rfl rfl yd (yV rfl rfl rfl Tryz.call168 (by apply c_bits_First <;> exact yz)) ?_
  refine GO_callv rfl (by decide : 12 < 14) rfl rfl rfl (CallV.mono (CallV.frame (A := [_, _]) (hy j _ [] _ hd3 ⟨_, hd1, rfl, rfl⟩ hq)) ?_)
  rintro v M' ⟨M1, rfl, Mz, e1, (⟨rfl, hq1⟩ | ⟨rfl, hq1⟩)⟩
  ·
   obtain rfl : M1 = Mz := e1
   show GO Tryz.prog none 14 [] _ _ _ _ _ _ (.box b1 t1 u64 c :: TAB :: M1)
   refine GO_op rfl rfl yd (OpX.v (ov_not rfl rfl)) ?_
   refine GO_nil (G_condf rfl ?_)
   refine G_skip ?_
   refine G_regl (fun w0 => ?_)
   refine GO_op rfl rfl yd (OpX.v (ov_load rfl rfl ye trivial rfl rfl tok23)) ?_
   refine GO_op rfl rfl yd (OpX.v (ov_load rfl rfl ye trivial rfl rfl tok23)) ?_
   refine GO_op rfl rfl yd (OpX.v (ov_arith64 (b := 1#64) rfl rfl rfl (.inr (.inl ⟨rfl, rfl⟩)))) ?_
   refine GO_op rfl rfl yd (OpX.v (ov_bits rfl rfl rfl (.inl ⟨rfl, rfl⟩))) ?_
   refine GO_l rfl trivial (ol_sw0 rfl rfl rfl rfl yf tok23 ?_)
   refine GO_nil ?_
   exact ⟨rfl, (j + 1, c &&& (c - 1#64), M1), (and_pred_lt hc1), ⟨hd3, hd2, hq1⟩, ⟨rfl, rfl, trivial⟩, yc⟩
  ·
   obtain rfl : M1 = Mz := e1
   show GO Tryz.prog none 14 [] _ _ _ _ _ _ (.box b1 t1 u64 c :: TAB :: M1)
   refine GO_op rfl rfl yd (OpX.v (ov_not rfl rfl)) ?_
   refine GO_nil (G_condt rfl ?_)
   refine G_ret ?_
   refine ⟨trivial, .inl ⟨rfl, _, _, (ResV_none rfl), yc, ?_⟩⟩
   first | exact .inl ⟨Mq, ((List.Sublist.refl _).cons _).cons _, by rw [show (bitsOf b).length = j by omega]; exact hq⟩ | exact .inr ⟨j, M1, hd3, ((List.Sublist.refl _).cons _).cons _, hq1⟩
 ·
  try simp only [yS] at hc1
  have hend : j ≥ (bitsOf b).length := by rw [hc1, bitsOf_0] at hI; exact List.drop_eq_nil_iff.1 hI
  refine G_exit ?_
  refine ⟨trivial, .inl ⟨rfl, _, _, (ResV_none rfl), yc, ?_⟩⟩
  first | exact .inl ⟨Mq, ((List.Sublist.refl _).cons _).cons _, by rw [show (bitsOf b).length = j by omega]; exact hq⟩ | exact .inr ⟨j, M1, hd3, ((List.Sublist.refl _).cons _).cons _, hq1⟩

theorem c_bits_List (b : BitVec 64) (M : List Fact) (hT : TAB ∈ M) : Con Tryz.prog 112 [u64v b] M (fun v M' => M' = .row v 3 i64 (bitsOf b) :: M) := by
 have hbl := bitsOf_len b
 refine con_of_G (n := 13) Tryz.func112 rfl rfl yn ?_
 refine G_seq (G_regl (fun w0 => ?_))
 refine GO_op rfl rfl yd (OpX.v (ov_assign rfl rfl)) ?_
 refine GO_nil (G_seq (G_regl (fun w0 => ?_)))
 refine GO_l rfl (by decide : 3 < 13) (ol_alloc1 rfl Tryz.zeroValue132 rfl (fun b1 => ?_))
 refine GO_nil (G_seq (G_seq (G_row 3 i64 ?_)))
 refine G_dup (f := TAB) (.tail _ (.tail _ hT)) rfl ?_
 refine G_regl (fun w0 => ?_)
 refine GO_op rfl rfl yd (OpX.v (ov_move rfl rfl)) ?_
 refine GO_l rfl (by decide : 6 < 13) (ol_call (v0 := []) (v2 := []) rfl rfl rfl Tryz.call167 (Con.mono (by apply c_bits_all <;> exact yz) (fun v M' h => ?_)))
 obtain ⟨bb, rfl, rfl⟩ := h
 refine GO_nil (G_block (G_range rfl Tryz.call201 (c_bits_all_1 b bb 23) (by rintro k vals F ⟨x, _, rfl, _⟩; rfl) yd (fun k M' => ∃ v, M' = .row v 3 i64 ((bitsOf b).take k) :: .one b1 132 v :: M) (fun _ _ => False) (A := [.box bb 23 u64 b, TAB]) (M0 := .row (Value.slice none 0 0) 3 i64 _ :: .one b1 132 _ :: M) (List.Perm.refl _) (⟨_, rfl⟩) ?_ ?_ ?_))
 ·
  rintro l k vals F M1 hk ⟨x, hx, rfl, rfl⟩ ⟨v, rfl⟩
  have hl1 := @List.length_take_le' _ k (bitsOf b)
  show G _ _ _ _ _ _ _ (.row v 3 i64 ((bitsOf b).take k) :: .one b1 132 v :: M)
  refine G_regl (fun w0 => ?_)
  refine GO_op rfl rfl yd (OpX.v (ov_assign rfl rfl)) ?_
  refine GO_nil ⟨rfl, ?_⟩
  refine G_block (G_regl (fun w0 => ?_))
  refine GO_op rfl rfl yd (OpX.v (ov_load1 rfl rfl ye Tryz.isAgg132)) ?_
  refine GO_op rfl rfl yd (OpX.v (ov_move rfl rfl)) ?_
  refine GO_l rfl (by decide : 10 < 13) (ol_buildSlice (t := i64) (xs := [_]) rfl rfl rfl Tryz.underlying132 tok3 xaey yd yd yd (fun v1 => ?_))
  refine GO_l rfl (by decide : 11 < 13) (ol_ap1 (t := i64) rfl rfl rfl xahy ap132 xafy xafy (fun v2 => ?_))
  refine GO_cell (v := v2) (t := i64) xahy (fun hcell => ?_)
  refine GO_l rfl trivial (ol_on2 rfl rfl rfl (by first | rfl | assumption) Tryz.sizeOf132 ?_)
  refine GO_nil ?_
  exact ⟨_, List.Perm.refl _, _, (List.Sublist.cons _ (List.Sublist.refl _)), _, rfl, v2, congrArg (fun q => Fact.row v2 3 i64 q :: Fact.one b1 132 v2 :: M) (take_snoc hx)⟩
 ·
  rintro D M1 ⟨v, rfl⟩
  refine G_seq (G_regl (fun w0 => ?_))
  refine GO_op rfl rfl yd (OpX.v (ov_load1 rfl rfl ye Tryz.isAgg132)) ?_
  refine GO_op rfl rfl yd (OpX.v (ov_assign rfl rfl)) ?_
  refine GO_nil (G_ret ?_)
  refine ⟨trivial, .inr ⟨_, _, rfl, rfl, _, _, (ResV_tmp1 rfl rfl rfl), (List.Sublist.cons_cons _ (List.Sublist.cons _ (List.Sublist.refl _))), ?_⟩⟩
  rw [List.take_length]
 ·
  rintro _ _ _ _ h; exact h.elim
end Go.Kw
namespace Go.Kw
/-! ### bit lengths -/
def len8S : ByteArray := ⟨#[0,1,2,2,3,3,3,3,4,4,4,4,4,4,4,4,5,5,5,5,5,5,5,5,5,5,5,5,5,5,5,5,6,6,6,6,6,6,6,6,6,6,6,6,6,6,6,6,6,6,6,6,6,6,6,6,6,6,6,6,6,6,6,6,7,7,7,7,7,7,7,7,7,7,7,7,7,7,7,7,7,7,7,7,7,7,7,7,7,7,7,7,7,7,7,7,7,7,7,7,7,7,7,7,7,7,7,7,7,7,7,7,7,7,7,7,7,7,7,7,7,7,7,7,7,7,7,7,8,8,8,8,8,8,8,8,8,8,8,8,8,8,8,8,8,8,8,8,8,8,8,8,8,8,8,8,8,8,8,8,8,8,8,8,8,8,8,8,8,8,8,8,8,8,8,8,8,8,8,8,8,8,8,8,8,8,8,8,8,8,8,8,8,8,8,8,8,8,8,8,8,8,8,8,8,8,8,8,8,8,8,8,8,8,8,8,8,8,8,8,8,8,8,8,8,8,8,8,8,8,8,8,8,8,8,8,8,8,8,8,8,8,8,8,8,8,8,8,8,8,8,8,8,8,8,8]⟩
def blen (n : Nat) : Nat := if n = 0 then 0 else n.log2 + 1
theorem len8_ok {n : Nat} (h : n < 256) : len8S[n]? = some (UInt8.ofNat (blen n)) := by
  have : ∀ i : Fin 256, len8S[i.val]? = some (UInt8.ofNat (blen i.val)) := by decide +kernel
  exact this ⟨n, h⟩
theorem blen_lt {n : Nat} (h : n < 256) : blen n ≤ 8 := by
  have : ∀ i : Fin 256, blen i.val ≤ 8 := by decide +kernel
  exact this ⟨n, h⟩
theorem blen_spec {n : Nat} (h : n ≠ 0) : 2 ^ (blen n - 1) ≤ n ∧ n < 2 ^ blen n ∧ 0 < blen n := by
  unfold blen; rw [if_neg h]
  exact ⟨by simpa using Nat.log2_self_le h, Nat.lt_log2_self, by omega⟩
theorem blen_uniq {n a : Nat} (h1 : 2 ^ a ≤ n) (h2 : n < 2 ^ (a + 1)) : blen n = a + 1 := by
  have hn : n ≠ 0 := by have := Nat.two_pow_pos a; omega
  obtain ⟨g1, g2, g3⟩ := blen_spec hn
  have a1 : blen n - 1 < a + 1 := (Nat.pow_lt_pow_iff_right (by decide : 1 < 2)).1 (Nat.lt_of_le_of_lt g1 h2)
  have a2 : a < blen n := (Nat.pow_lt_pow_iff_right (by decide : 1 < 2)).1 (Nat.lt_of_le_of_lt h1 g2)
  omega
theorem blen_shift {n k : Nat} (h : 2 ^ k ≤ n) : blen n = k + blen (n / 2 ^ k) := by
  have hp : 0 < 2 ^ k := Nat.two_pow_pos k
  have hq : n / 2 ^ k ≠ 0 := by
    have := Nat.div_pos h hp; omega
  obtain ⟨g1, g2, g3⟩ := blen_spec hq
  have := @blen_uniq n (k + (blen (n / 2 ^ k) - 1)) (by
    rw [Nat.pow_add, Nat.mul_comm]; exact (Nat.le_div_iff_mul_le hp).1 g1) (by
    rw [show k + (blen (n / 2 ^ k) - 1) + 1 = blen (n / 2 ^ k) + k by omega, Nat.pow_add]; exact (Nat.div_lt_iff_lt_mul hp).1 g2)
  omega
theorem blen32 {n : Nat} (h : 4294967296 ≤ n) : blen n = 32 + blen (n / 4294967296) := @blen_shift n 32 h
theorem blen16 {n : Nat} (h : 65536 ≤ n) : blen n = 16 + blen (n / 65536) := @blen_shift n 16 h
theorem blen8 {n : Nat} (h : 256 ≤ n) : blen n = 8 + blen (n / 256) := @blen_shift n 8 h
def lenB (b : BitVec 64) : Int := (blen b.toNat : Nat)
def lastB (b : BitVec 64) : Int := lenB b - 1
theorem shr_nat (b : BitVec 64) (k : Nat) : (b >>> (k : Int).toNat).toNat = b.toNat / 2 ^ k := by
  rw [BitVec.toNat_ushiftRight, Nat.shiftRight_eq_div_pow]; rfl
theorem sh32 (b : BitVec 64) : (b >>> (32 : Int).toNat).toNat = b.toNat / 4294967296 := shr_nat b 32
theorem sh16 (b : BitVec 64) : (b >>> (16 : Int).toNat).toNat = b.toNat / 65536 := shr_nat b 16
theorem sh8 (b : BitVec 64) : (b >>> (8 : Int).toNat).toNat = b.toNat / 256 := shr_nat b 8
theorem add_u8 (n : Int) (u : UInt8) (h0 : 0 ≤ n) (h1 : n ≤ 100) : rng .i64 (n + (u.toNat : Int)) := by
  have := u.toNat_lt
  simp only [rng]; omega
theorem u8_rng (u : UInt8) : rng .i64 (u.toNat : Int) := by
  have := u.toNat_lt
  simp only [rng]; omega
theorem u8_blen {n : Nat} (h : n < 256) : ((UInt8.ofNat (blen n)).toNat : Int) = (blen n : Nat) := by
  have := blen_lt h
  simp [UInt8.toNat_ofNat']; omega
theorem low_rng {b : BitVec 64} (h : ¬ b = 0#64) : 0 ≤ firstB b ∧ firstB b < 64 := by
  obtain ⟨i, hi, hb, hl⟩ := low_bit h
  rw [first_low hi hb hl]; omega
theorem last_rng {b : BitVec 64} (h : ¬ b = 0#64) : 0 ≤ lastB b ∧ lastB b < 64 := by
  have hn : b.toNat ≠ 0 := fun e => h (BitVec.eq_of_toNat_eq (by simpa using e))
  obtain ⟨g1, g2, g3⟩ := blen_spec hn
  have a1 : blen b.toNat - 1 < 64 := (Nat.pow_lt_pow_iff_right (by decide : 1 < 2)).1 (Nat.lt_of_le_of_lt g1 b.isLt)
  unfold lastB lenB; omega
theorem lenB_rng (b : BitVec 64) : 0 ≤ lenB b ∧ lenB b ≤ 64 := by
  by_cases h : b = 0#64
  · subst h; decide
  · have := last_rng h; unfold lastB at this; omega
def nearB (d : Int) (b : BitVec 64) : Int := if 3 ≤ d ∧ d ≤ 6 then lastB b else firstB b
def dirB (s d : Int) (occ : BitVec 64) : BitVec 64 :=
  if rayB s d &&& occ = 0#64 then rayB s d else rayB s d &&& ~~~rayB (nearB d (rayB s d &&& occ)) d
theorem near_rng {d : Int} {b : BitVec 64} (h : ¬ b = 0#64) : 0 ≤ nearB d b ∧ nearB d b < 64 := by
  unfold nearB; split
  · exact last_rng h
  · exact low_rng h
def seenB (s : Int) (occ : BitVec 64) (ds : List Int) : BitVec 64 := ds.foldl (fun b d => b ||| dirB s d occ) 0#64
theorem seen_fold (s : Int) (occ : BitVec 64) (ds : List (El i64)) (i : Nat) (h : i < ds.length) : seenB s occ (ds.take i) ||| dirB s (ds.getD i (zero i64)) occ = seenB s occ (ds.take (i + 1)) := by
  have : ∀ (l : List Int) (i : Nat) (h : i < l.length), seenB s occ (l.take i) ||| dirB s (l.getD i 0) occ = seenB s occ (l.take (i + 1)) := by
    intro l i h
    unfold seenB
    rw [List.take_add_one, List.foldl_append, List.getD_eq_getElem?_getD, List.getElem?_eq_getElem h]; rfl
  exact this ds i h
def bishopB (s : Int) (occ : BitVec 64) : BitVec 64 := seenB s occ [1, 3, 5, 7]
def rookB (s : Int) (occ : BitVec 64) : BitVec 64 := seenB s occ [0, 2, 4, 6]
def queenB (s : Int) (occ : BitVec 64) : BitVec 64 := rookB s occ ||| bishopB s occ
def onesF (b : BitVec 64) : BitVec 64 :=
  let x1 := ((b >>> (1 : Int).toNat) &&& 6148914691236517205#64) + (b &&& 6148914691236517205#64)
  let x2 := ((x1 >>> (2 : Int).toNat) &&& 3689348814741910323#64) + (x1 &&& 3689348814741910323#64)
  let x3 := ((x2 >>> (4 : Int).toNat) + x2) &&& 1085102592571150095#64
  let x4 := x3 + (x3 >>> (8 : Int).toNat)
  let x5 := x4 + (x4 >>> (16 : Int).toNat)
  x5 + (x5 >>> (32 : Int).toNat)
/-! ### the table of variants -/
abbrev varTy : Ty := .st [.str, .ar 2 .bool, .bool, .bool, .bool, u8]
def varT : List (El varTy) := [((⟨#[115, 116, 97, 110, 100, 97, 114, 100]⟩ : ByteArray), ([true, true] : List Bool), true, false, true, (5 : Int), ()),
  ((⟨#[99, 104, 101, 115, 115, 57, 54, 48]⟩ : ByteArray), ([true, true] : List Bool), true, false, true, (5 : Int), ()),
  ((⟨#[99, 114, 97, 122, 121, 104, 111, 117, 115, 101]⟩ : ByteArray), ([true, true] : List Bool), true, true, true, (5 : Int), ()),
  ((⟨#[97, 116, 111, 109, 105, 99]⟩ : ByteArray), ([true, true] : List Bool), true, false, true, (5 : Int), ()),
  ((⟨#[97, 110, 116, 105, 99, 104, 101, 115, 115]⟩ : ByteArray), ([false, false] : List Bool), false, false, true, (6 : Int), ()),
  ((⟨#[116, 104, 114, 101, 101, 99, 104, 101, 99, 107]⟩ : ByteArray), ([true, true] : List Bool), true, false, true, (5 : Int), ()),
  ((⟨#[107, 105, 110, 103, 104, 105, 108, 108]⟩ : ByteArray), ([true, true] : List Bool), true, false, true, (5 : Int), ()),
  ((⟨#[104, 111, 114, 100, 101]⟩ : ByteArray), ([false, true] : List Bool), true, false, true, (5 : Int), ()),
  ((⟨#[114, 97, 99, 105, 110, 103]⟩ : ByteArray), ([true, true] : List Bool), false, false, false, (0 : Int), ())]
def varAt (v : Int) : El varTy := varT.getD v.toNat (zero varTy)
theorem varT_wf : wf (.ar 9 varTy) varT := ⟨rfl, fun x hx => by
  have : ∀ x ∈ varT, x.2.1.length = 2 := by decide
  exact ⟨trivial, ⟨this x hx, fun _ _ => trivial⟩, trivial, trivial, trivial, trivial, trivial⟩⟩
theorem varAt_wf (v : Int) : wf varTy (varAt v) := by
  unfold varAt
  rw [List.getD_eq_getElem?_getD]
  cases h : varT[v.toNat]? with
  | none => exact wf_zero _
  | some x => exact varT_wf.2 x (List.mem_of_getElem? h)
def varOf (v : Int) : El varTy := if 9 ≤ v then zero varTy else varAt v
theorem varOf_wf (v : Int) : wf varTy (varOf v) := by
  unfold varOf; split
  · exact wf_zero _
  · exact varAt_wf v
def castlesP (v : Int) : Bool := (varOf v).2.2.1
def pocketsP (v : Int) : Bool := (varOf v).2.2.2.1
def lastP (v : Int) : Int := (varOf v).2.2.2.2.2.1
def royalP (v c : Int) : Bool := decide (c ≤ 1) && ((show List Bool from (varOf v).2.1).getD c.toNat false)
theorem fin9 {v : Int} (h0 : 0 ≤ v) (h : v < 9) : v = 0 ∨ v = 1 ∨ v = 2 ∨ v = 3 ∨ v = 4 ∨ v = 5 ∨ v = 6 ∨ v = 7 ∨ v = 8 := by omega
theorem royal_ref {v c : Int} (h0 : 0 ≤ v) (c0 : 0 ≤ c) : royalP v c = refRoyal v c := by
  by_cases hv : 9 ≤ v
  · unfold royalP refRoyal varOf
    rw [if_pos hv]
    have : decide (v < 9) = false := by simp; omega
    rw [this]
    have e : ∀ n : Nat, ((show List Bool from (zero varTy : El varTy).2.1).getD n false) = false := fun n => by
      show (List.replicate 2 false).getD n false = false
      rw [List.getD_eq_getElem?_getD, List.getElem?_replicate]; split <;> rfl
    rw [e]; simp
  · have hc : c = 0 ∨ c = 1 ∨ 2 ≤ c := by omega
    rcases fin9 h0 yo with rfl | rfl | rfl | rfl | rfl | rfl | rfl | rfl | rfl <;> rcases hc with rfl | rfl | hc <;> first
      | decide
      | (unfold royalP refRoyal
         rw [show decide (c ≤ 1) = false by simp; omega, show decide (c < 2) = false by simp; omega]; simp)
theorem last_val {v : Int} (h0 : 0 ≤ v) : lastP v = if v = 4 then 6 else if v < 8 then 5 else 0 := by
  by_cases hv : 9 ≤ v
  · unfold lastP varOf; rw [if_pos hv, if_neg yo, if_neg yo]; rfl
  · rcases fin9 h0 yo with rfl | rfl | rfl | rfl | rfl | rfl | rfl | rfl | rfl <;> decide
theorem castles_val {v : Int} (h0 : 0 ≤ v) : castlesP v = (decide (v < 9) && !decide (v = 4) && !decide (v = 8)) := by
  by_cases hv : 9 ≤ v
  · unfold castlesP varOf; rw [if_pos hv, show decide (v < 9) = false by simp; omega]; rfl
  · rcases fin9 h0 yo with rfl | rfl | rfl | rfl | rfl | rfl | rfl | rfl | rfl <;> decide
theorem pockets_val {v : Int} (h0 : 0 ≤ v) : pocketsP v = decide (v = 2) := by
  by_cases hv : 9 ≤ v
  · unfold pocketsP varOf; rw [if_pos hv, show decide (v = 2) = false by simp; omega]; rfl
  · rcases fin9 h0 yo with rfl | rfl | rfl | rfl | rfl | rfl | rfl | rfl | rfl <;> decide
def promP (v : Int) : List (El u8) := if v = 4 then ([2, 3, 4, 5, 6] : List Int) else if v < 8 then ([2, 3, 4, 5] : List Int) else ([] : List Int)
/-- 2, 3, .., 2 + n - 1. -/
def upto2 : Nat → List (El u8)
  | 0 => []
  | n + 1 => upto2 n ++ [((2 + n : Nat) : Int)]
theorem prom_upto {v : Int} (h0 : 0 ≤ v) : promP v = upto2 (lastP v - 1).toNat := by
  rw [last_val h0]; unfold promP
  by_cases h4 : v = 4
  · subst h4; rfl
  · by_cases h8 : v < 8
    · rw [if_neg h4, if_pos h8, if_neg h4, if_pos h8]; rfl
    · rw [if_neg h4, if_neg h8, if_neg h4, if_neg h8]; rfl
theorem upto2_len : ∀ n, (upto2 n).length = n
  | 0 => rfl
  | n + 1 => by
    show (List.append (upto2 n) [_]).length = n + 1
    have : ∀ (l : List (El u8)) (x : El u8), (List.append l [x]).length = l.length + 1 := fun l x => by simp
    rw [this, upto2_len n]
end Go.Kw
set_option linter.unusedVariables false
namespace Go.Kw
open Go.Proofs
theorem tok4 : TyOK Tryz.prog 4 .bool := ⟨Tryz.isAgg4, Tryz.sizeOf4, Tryz.zeroValue4⟩
theorem tok149 : TyOK Tryz.prog 149 (.ar 2 .bool) := ⟨Tryz.isAgg149, Tryz.sizeOf149, Tryz.zeroValue149⟩
theorem tok151 : TyOK Tryz.prog 151 varTy := ⟨Tryz.isAgg151, Tryz.sizeOf151, Tryz.zeroValue151⟩
theorem tok169 : TyOK Tryz.prog 169 .fn := ⟨Tryz.isAgg169, Tryz.sizeOf169, Tryz.zeroValue169⟩
theorem tok184 : TyOK Tryz.prog 184 (.ar 9 varTy) := ⟨Tryz.isAgg184, Tryz.sizeOf184, Tryz.zeroValue184⟩
theorem tok208 : TyOK Tryz.prog 208 (.st [.fn]) := ⟨Tryz.isAgg208, Tryz.sizeOf208, Tryz.zeroValue208⟩
theorem bl149 : BuildOKa Tryz.prog 149 2 .bool := ⟨_, _, _, rfl, rfl, Tryz.underlying149, rfl, rfl⟩
abbrev fs150 : List Ty := [.str, (.ar 2 .bool), .bool, .bool, .bool, u8]
theorem bl151 : BuildOK Tryz.prog 151 fs150 := ⟨_, _, rfl, rfl, Tryz.underlying151, by kernel_rfl⟩
theorem bl184 : BuildOKa Tryz.prog 184 9 varTy := ⟨_, _, _, rfl, rfl, Tryz.underlying184, rfl, rfl⟩
abbrev fs207 : List Ty := [.fn]
theorem bl208 : BuildOK Tryz.prog 208 fs207 := ⟨_, _, rfl, rfl, Tryz.underlying208, by kernel_rfl⟩

def wayF (d : Int) : El (.st [.fn]) := if 3 ≤ d ∧ d ≤ 6 then ((some (231, [], []) : FnV), ()) else ((some (168, [], []) : FnV), ())
theorem dirs4_Bishop : ∀ i, i < ([1, 3, 5, 7] : List (El i64)).length → 0 ≤ ([1, 3, 5, 7] : List (El i64)).getD i (zero i64) ∧ ([1, 3, 5, 7] : List (El i64)).getD i (zero i64) < 8 := by
  intro i hi
  have h : ∀ j : Fin 4, 0 ≤ ([1, 3, 5, 7] : List Int).getD j.val 0 ∧ ([1, 3, 5, 7] : List Int).getD j.val 0 < 8 := by decide
  exact h ⟨i, hi⟩
theorem dirs4_Rook : ∀ i, i < ([0, 2, 4, 6] : List (El i64)).length → 0 ≤ ([0, 2, 4, 6] : List (El i64)).getD i (zero i64) ∧ ([0, 2, 4, 6] : List (El i64)).getD i (zero i64) < 8 := by
  intro i hi
  have h : ∀ j : Fin 4, 0 ≤ ([0, 2, 4, 6] : List Int).getD j.val 0 ∧ ([0, 2, 4, 6] : List Int).getD j.val 0 < 8 := by decide
  exact h ⟨i, hi⟩

theorem c_math_bits_Len64 (b : BitVec 64) (M : List Fact) : Pure Tryz.prog 233 [u64v b] M (.int .i64 (lenB b)) := by
 have hbl := b.isLt
 have q32 := @blen32
 have q16 := @blen16
 have q8 := @blen8
 refine pure_of_W (n := 25) Tryz.func233 rfl rfl yn ?_
 refine w1 ((yA_ ?_))
 refine RO_nil (W_seq (w1 ((yM ?_))))
 refine yR (ov_geq rfl rfl rfl) ?_
 refine RO_nil (W_cond rfl (fun hc1 => ?_) (fun hc1 => ?_))
 ·
  try simp only [yS] at hc1
  refine w1 ((yM ?_))
  refine yR (ov_shr64 rfl rfl rfl ya) ?_
  refine yA_ ?_
  refine RO_nil (W_reg (yA_ ?_))
  refine RO_nil (W_seq (w1 ((yM ?_))))
  refine yR (ov_geq rfl rfl rfl) ?_
  refine RO_nil (W_cond rfl (fun hc2 => ?_) (fun hc2 => ?_))
  ·
   try simp only [yS] at hc2
   refine w1 ((yM ?_))
   refine yR (ov_shr64 rfl rfl rfl ya) ?_
   refine yA_ ?_
   refine RO_nil (W_reg (yM ?_))
   refine yR (ov_add rfl rfl rfl ya) ?_
   refine yA_ ?_
   refine RO_nil (W_seq (w1 ((yM ?_))))
   refine yR (ov_geq rfl rfl rfl) ?_
   refine RO_nil (W_cond rfl (fun hc3 => ?_) (fun hc3 => ?_))
   ·
    try simp only [yS] at hc3
    refine w1 ((yM ?_))
    refine yR (ov_shr64 rfl rfl rfl ya) ?_
    refine yA_ ?_
    refine RO_nil (W_reg (yM ?_))
    refine yR (ov_add rfl rfl rfl ya) ?_
    refine yA_ ?_
    refine RO_nil (W_seq ?_)
    all_goals (try simp only [ge_iff_le, sh32, sh16, sh8] at *)
    refine W_reg (yM ?_)
    refine yM ?_
    refine yR (ov_convn rfl rfl Tryz.underlying23 Tryz.underlying5 (by simp only [rng, sh32, sh16, sh8]; omega)) ?_
    refine yR (ov_indexStr rfl rfl rfl Tryz.underlying9 yo (len8_ok xazy)) ?_
    refine yR (ov_convn rfl rfl Tryz.underlying5 Tryz.underlying3 (u8_rng _)) ?_
    refine yR (ov_add rfl rfl rfl (add_u8 _ _ yo yo)) ?_
    refine yA_ ?_
    refine RO_nil (W_ret ⟨trivial, yc, (ResV_tmp1 rfl rfl ?_)⟩)
    exact val_int xaiy
   ·
    try simp only [yS] at hc3
    refine W_skip (W_seq ?_)
    all_goals (try simp only [ge_iff_le, sh32, sh16, sh8] at *)
    refine W_reg (yM ?_)
    refine yM ?_
    refine yR (ov_convn rfl rfl Tryz.underlying23 Tryz.underlying5 (by simp only [rng, sh32, sh16, sh8]; omega)) ?_
    refine yR (ov_indexStr rfl rfl rfl Tryz.underlying9 yo (len8_ok xazy)) ?_
    refine yR (ov_convn rfl rfl Tryz.underlying5 Tryz.underlying3 (u8_rng _)) ?_
    refine yR (ov_add rfl rfl rfl (add_u8 _ _ yo yo)) ?_
    refine yA_ ?_
    refine RO_nil (W_ret ⟨trivial, yc, (ResV_tmp1 rfl rfl ?_)⟩)
    exact val_int xaiy
  ·
   try simp only [yS] at hc2
   refine W_skip (W_seq (w1 ((yM ?_))))
   refine yR (ov_geq rfl rfl rfl) ?_
   refine RO_nil (W_cond rfl (fun hc4 => ?_) (fun hc4 => ?_))
   ·
    try simp only [yS] at hc4
    refine w1 ((yM ?_))
    refine yR (ov_shr64 rfl rfl rfl ya) ?_
    refine yA_ ?_
    refine RO_nil (W_reg (yM ?_))
    refine yR (ov_add rfl rfl rfl ya) ?_
    refine yA_ ?_
    refine RO_nil (W_seq ?_)
    all_goals (try simp only [ge_iff_le, sh32, sh16, sh8] at *)
    refine W_reg (yM ?_)
    refine yM ?_
    refine yR (ov_convn rfl rfl Tryz.underlying23 Tryz.underlying5 (by simp only [rng, sh32, sh16, sh8]; omega)) ?_
    refine yR (ov_indexStr rfl rfl rfl Tryz.underlying9 yo (len8_ok xazy)) ?_
    refine yR (ov_convn rfl rfl Tryz.underlying5 Tryz.underlying3 (u8_rng _)) ?_
    refine yR (ov_add rfl rfl rfl (add_u8 _ _ yo yo)) ?_
    refine yA_ ?_
    refine RO_nil (W_ret ⟨trivial, yc, (ResV_tmp1 rfl rfl ?_)⟩)
    exact val_int xaiy
   ·
    try simp only [yS] at hc4
    refine W_skip (W_seq ?_)
    all_goals (try simp only [ge_iff_le, sh32, sh16, sh8] at *)
    refine W_reg (yM ?_)
    refine yM ?_
    refine yR (ov_convn rfl rfl Tryz.underlying23 Tryz.underlying5 (by simp only [rng, sh32, sh16, sh8]; omega)) ?_
    refine yR (ov_indexStr rfl rfl rfl Tryz.underlying9 yo (len8_ok xazy)) ?_
    refine yR (ov_convn rfl rfl Tryz.underlying5 Tryz.underlying3 (u8_rng _)) ?_
    refine yR (ov_add rfl rfl rfl (add_u8 _ _ yo yo)) ?_
    refine yA_ ?_
    refine RO_nil (W_ret ⟨trivial, yc, (ResV_tmp1 rfl rfl ?_)⟩)
    exact val_int xaiy
 ·
  try simp only [yS] at hc1
  refine W_skip (W_seq (w1 ((yM ?_))))
  refine yR (ov_geq rfl rfl rfl) ?_
  refine RO_nil (W_cond rfl (fun hc5 => ?_) (fun hc5 => ?_))
  ·
   try simp only [yS] at hc5
   refine w1 ((yM ?_))
   refine yR (ov_shr64 rfl rfl rfl ya) ?_
   refine yA_ ?_
   refine RO_nil (W_reg (yM ?_))
   refine yR (ov_add rfl rfl rfl ya) ?_
   refine yA_ ?_
   refine RO_nil (W_seq (w1 ((yM ?_))))
   refine yR (ov_geq rfl rfl rfl) ?_
   refine RO_nil (W_cond rfl (fun hc6 => ?_) (fun hc6 => ?_))
   ·
    try simp only [yS] at hc6
    refine w1 ((yM ?_))
    refine yR (ov_shr64 rfl rfl rfl ya) ?_
    refine yA_ ?_
    refine RO_nil (W_reg (yM ?_))
    refine yR (ov_add rfl rfl rfl ya) ?_
    refine yA_ ?_
    refine RO_nil (W_seq ?_)
    all_goals (try simp only [ge_iff_le, sh32, sh16, sh8] at *)
    refine W_reg (yM ?_)
    refine yM ?_
    refine yR (ov_convn rfl rfl Tryz.underlying23 Tryz.underlying5 (by simp only [rng, sh32, sh16, sh8]; omega)) ?_
    refine yR (ov_indexStr rfl rfl rfl Tryz.underlying9 yo (len8_ok xazy)) ?_
    refine yR (ov_convn rfl rfl Tryz.underlying5 Tryz.underlying3 (u8_rng _)) ?_
    refine yR (ov_add rfl rfl rfl (add_u8 _ _ yo yo)) ?_
    refine yA_ ?_
    refine RO_nil (W_ret ⟨trivial, yc, (ResV_tmp1 rfl rfl ?_)⟩)
    exact val_int xaiy
   ·
    try simp only [yS] at hc6
    refine W_skip (W_seq ?_)
    all_goals (try simp only [ge_iff_le, sh32, sh16, sh8] at *)
    refine W_reg (yM ?_)
    refine yM ?_
    refine yR (ov_convn rfl rfl Tryz.underlying23 Tryz.underlying5 (by simp only [rng, sh32, sh16, sh8]; omega)) ?_
    refine yR (ov_indexStr rfl rfl rfl Tryz.underlying9 yo (len8_ok xazy)) ?_
    refine yR (ov_convn rfl rfl Tryz.underlying5 Tryz.underlying3 (u8_rng _)) ?_
    refine yR (ov_add rfl rfl rfl (add_u8 _ _ yo yo)) ?_
    refine yA_ ?_
    refine RO_nil (W_ret ⟨trivial, yc, (ResV_tmp1 rfl rfl ?_)⟩)
    exact val_int xaiy
  ·
   try simp only [yS] at hc5
   refine W_skip (W_seq (w1 ((yM ?_))))
   refine yR (ov_geq rfl rfl rfl) ?_
   refine RO_nil (W_cond rfl (fun hc7 => ?_) (fun hc7 => ?_))
   ·
    try simp only [yS] at hc7
    refine w1 ((yM ?_))
    refine yR (ov_shr64 rfl rfl rfl ya) ?_
    refine yA_ ?_
    refine RO_nil (W_reg (yM ?_))
    refine yR (ov_add rfl rfl rfl ya) ?_
    refine yA_ ?_
    refine RO_nil (W_seq ?_)
    all_goals (try simp only [ge_iff_le, sh32, sh16, sh8] at *)
    refine W_reg (yM ?_)
    refine yM ?_
    refine yR (ov_convn rfl rfl Tryz.underlying23 Tryz.underlying5 (by simp only [rng, sh32, sh16, sh8]; omega)) ?_
    refine yR (ov_indexStr rfl rfl rfl Tryz.underlying9 yo (len8_ok xazy)) ?_
    refine yR (ov_convn rfl rfl Tryz.underlying5 Tryz.underlying3 (u8_rng _)) ?_
    refine yR (ov_add rfl rfl rfl (add_u8 _ _ yo yo)) ?_
    refine yA_ ?_
    refine RO_nil (W_ret ⟨trivial, yc, (ResV_tmp1 rfl rfl ?_)⟩)
    exact val_int xaiy
   ·
    try simp only [yS] at hc7
    refine W_skip (W_seq ?_)
    all_goals (try simp only [ge_iff_le, sh32, sh16, sh8] at *)
    refine W_reg (yM ?_)
    refine yM ?_
    refine yR (ov_convn rfl rfl Tryz.underlying23 Tryz.underlying5 (by simp only [rng, sh32, sh16, sh8]; omega)) ?_
    refine yR (ov_indexStr rfl rfl rfl Tryz.underlying9 yo (len8_ok xazy)) ?_
    refine yR (ov_convn rfl rfl Tryz.underlying5 Tryz.underlying3 (u8_rng _)) ?_
    refine yR (ov_add rfl rfl rfl (add_u8 _ _ yo yo)) ?_
    refine yA_ ?_
    refine RO_nil (W_ret ⟨trivial, yc, (ResV_tmp1 rfl rfl ?_)⟩)
    exact val_int xaiy

theorem c_math_bits_LeadingZeros64 (b : BitVec 64) (M : List Fact) : Pure Tryz.prog 232 [u64v b] M (.int .i64 (64 - lenB b)) := by
 have hlr := lenB_rng b
 refine pure_of_W (n := 6) Tryz.func232 rfl rfl yn ?_
 refine w1 ((yA_ ?_))
 refine RO_nil (w1 ((yM ?_)))
 refine yP (yV rfl rfl rfl Tryz.call233 (by apply c_math_bits_Len64 <;> exact yz)) ?_
 refine yR (ov_sub rfl rfl rfl ya) ?_
 refine yA_ ?_
 refine RO_nil (W_ret ⟨trivial, yc, (ResV_tmp1 rfl rfl ?_)⟩)
 rfl

theorem c_slides_last (b : BitVec 64) (M : List Fact) : Pure Tryz.prog 231 [u64v b] M (.int .i64 (lastB b)) := by
 have hlr := lenB_rng b
 refine pure_of_W (n := 6) Tryz.func231 rfl rfl yn ?_
 refine w1 ((yA_ ?_))
 refine RO_nil (w1 ((yM ?_)))
 refine yP (yV rfl rfl rfl Tryz.call232 (by apply c_math_bits_LeadingZeros64 <;> exact yz)) ?_
 refine yR (ov_sub rfl rfl rfl ya) ?_
 refine yA_ ?_
 refine RO_nil (W_ret ⟨trivial, yc, (ResV_tmp1 rfl rfl ?_)⟩)
 exact val_int (by unfold lastB; omega)

theorem c_slides_wayOf (d : Int) (M : List Fact) : Pure Tryz.prog 230 [.int .i64 d] M (enc (.st [.fn]) (wayF d)) := by
 refine pure_of_W (n := 11) Tryz.func230 rfl rfl yn ?_
 refine w2 (fun w0 => ?_)
 refine LO_l rfl (by decide : 2 < 11) (ol_alloc (t := (.st [.fn])) rfl tok208 yf (fun b1 => ?_))
 refine LO_nil (W_seq (w1 ((yM ?_))))
 refine yR (ov_geq rfl rfl rfl) ?_
 refine yM ?_
 refine gM ?_
 refine yG (fun hg => OpX.v (ov_leq rfl (look_gv rfl (bq hg)) rfl)) ?_
 refine yR (ov_and rfl rfl rfl rfl (fun h => bq h)) ?_
 refine RO_nil (W_cond rfl (fun hc1 => ?_) (fun hc1 => ?_))
 ·
  try simp only [yS] at hc1
  refine w2 (fun w0 => ?_)
  refine yL (ov_build (fs := fs207) (ds := [⟨0, (some (231, [], []) : FnV)⟩]) rfl rfl bl208 ⟨yn, yf, trivial⟩ rfl) ?_
  refine LO_l rfl trivial (ol_sw0 rfl rfl rfl rfl yf tok208 ?_)
  refine LO_nil (W_ret ⟨trivial, yc, (ResV_cell rfl rfl ye rfl tok208 ?_)⟩)
  exact val_enc (by unfold wayF; first | exact (if_pos xaky).symm | exact (if_neg xaky).symm)
 ·
  try simp only [yS] at hc1
  refine W_skip (w2 (fun w0 => ?_))
  refine yL (ov_build (fs := fs207) (ds := [⟨0, (some (168, [], []) : FnV)⟩]) rfl rfl bl208 ⟨yn, yf, trivial⟩ rfl) ?_
  refine LO_l rfl trivial (ol_sw0 rfl rfl rfl rfl yf tok208 ?_)
  refine LO_nil (W_ret ⟨trivial, yc, (ResV_cell rfl rfl ye rfl tok208 ?_)⟩)
  exact val_enc (by unfold wayF; first | exact (if_pos xaky).symm | exact (if_neg xaky).symm)

theorem way_fn (d : Int) : ∃ cf cv, (wayF d).1 = some (cf, [], cv) ∧ (∀ av w, (callFunc cf av).run Tryz.prog w = .ok (.enter cf av) w) ∧ ∀ b M, TAB ∈ M → Pure Tryz.prog cf (u64v b :: cv) M (.int .i64 (nearB d b)) := by
  by_cases h : 3 ≤ d ∧ d ≤ 6
  · refine ⟨231, [], by unfold wayF; rw [if_pos h], Tryz.call231, fun b M hT => ?_⟩
    unfold nearB; rw [if_pos h]; exact c_slides_last b M
  · refine ⟨168, [], by unfold wayF; rw [if_neg h], Tryz.call168, fun b M hT => ?_⟩
    unfold nearB; rw [if_neg h]; exact c_bits_First b M hT

theorem c_slides_Dir (s d : Int) (occ : BitVec 64) (M : List Fact) (hT : TAB ∈ M) (h0 : 0 ≤ s) (h1 : s < 64) (h2 : 0 ≤ d) (h3 : d < 8) : Pure Tryz.prog 228 [.int .i64 s, .int .i64 d, u64v occ] M (u64v (dirB s d occ)) := by
 refine pure_of_W (n := 27) Tryz.func228 rfl rfl yn ?_
 refine w1 ((yR (ov_assign (v := u64v 0#64) rfl rfl) ?_))
 refine RO_nil (w1 ((yM ?_)))
 refine yM ?_
 refine yP (yV rfl rfl rfl Tryz.call229 (by apply c_rays_Ray <;> exact yz)) ?_
 refine yA_ ?_
 refine RO_nil (w1 ((yM ?_)))
 refine yM ?_
 refine yR (ov_bits rfl rfl rfl (.inl ⟨rfl, rfl⟩)) ?_
 refine yA_ ?_
 refine RO_nil (W_seq (w1 ((yM ?_))))
 refine yR (ov_eql64 (b := 0#64) rfl rfl rfl) ?_
 refine RO_nil (W_cond rfl (fun hc1 => ?_) (fun hc1 => ?_))
 ·
  try simp only [yS] at hc1
  refine w1 ((yM ?_))
  refine yA_ ?_
  refine RO_nil (W_ret ⟨trivial, yc, (ResV_tmp1 rfl rfl ?_)⟩)
  exact val_u64 (by unfold dirB; first | exact (if_pos xaky).symm | exact (if_neg xaky).symm)
 ·
  try simp only [yS] at hc1
  refine W_skip (W_seq ?_)
  obtain ⟨cf, cv, hwf, hcf, hpn⟩ := way_fn d
  have hnr := @near_rng d _ hc1
  refine W_reg (yM ?_)
  refine yM ?_
  refine yP (yV rfl rfl rfl Tryz.call230 (by apply c_slides_wayOf <;> exact yz)) ?_
  refine yR (ov_field (t := .st [.fn]) (v := .func (.func cf) #[] cv.toArray) rfl rfl (wf_triv rfl _) rfl Tryz.underlying208 rfl yn rfl rfl (by show some (encFn (wayF d).1) = _; rw [hwf]; rfl) tok169) ?_
  refine yM ?_
  refine yP (ov_call  rfl rfl rfl hcf (hpn _ _ hT)) ?_
  refine yM ?_
  refine yP (yV rfl rfl rfl Tryz.call229 (by apply c_rays_Ray <;> exact yz)) ?_
  refine yR (ov_bits rfl rfl rfl (.inr (.inr (.inr ⟨rfl, rfl⟩)))) ?_
  refine yA_ ?_
  refine RO_nil (W_ret ⟨trivial, yc, (ResV_tmp1 rfl rfl ?_)⟩)
  exact val_u64 (by unfold dirB; first | exact (if_pos xaky).symm | exact (if_neg xaky).symm)

theorem c_slides_seen (s : Int) (occ : BitVec 64) (v : Value) (ds : List (El i64)) (M : List Fact) (hT : TAB ∈ M) (h0 : 0 ≤ s) (h1 : s < 64) (hl : HasList M v i64 ds) (hlen : ds.length ≤ 8) (hds : ∀ i, i < ds.length → 0 ≤ ds.getD i (zero i64) ∧ ds.getD i (zero i64) < 8) : Pure Tryz.prog 224 [.int .i64 s, u64v occ, v] M (u64v (seenB s occ ds)) := by
 refine pure_of_W (n := 24) Tryz.func224 rfl rfl yn ?_
 refine w1 ((yR (ov_assign (v := u64v 0#64) rfl rfl) ?_))
 refine RO_nil (w1 ((yR (ov_assign (v := u64v 0#64) rfl rfl) ?_)))
 refine RO_nil (W_seq (w1 ((yM ?_))))
 refine yR (ov_len rfl rfl xahy Tryz.underlying132) ?_
 refine yM ?_
 refine RO_nil (W_block (W_loop (σ := Nat) (fun i => i ≤ ds.length) (fun i => [(0, .int .i64 s), (1, u64v occ), (10, v), (11, .int .i64 (ds.length : Int)), (12, .int .i64 (i : Int)), (7, u64v (seenB s occ (ds.take i)))]) (fun i => M) (fun i => ds.length - i) (0) yo ⟨rfl, rfl, rfl, rfl, rfl, rfl, trivial⟩ yc ?_))
 rintro i hI
 refine w1 ((yR (ov_lss rfl rfl rfl) ?_))
 refine RO_nil (W_seq (W_cond rfl (fun hc1 => ?_) (fun hc1 => ?_)))
 ·
  try simp only [yS] at hc1
  have hdi := hds i yo
  refine W_skip (W_seq (W_block (w1 ((yR (ov_indexAddr_sl (t := i64) rfl rfl xahy rfl Tryz.underlying132 Tryz.sizeOf3 ya ya) ?_)))))
  refine yR (ov_load_e (t := i64) (p := []) rfl rfl xahy ya trivial rfl rfl tok3) ?_
  refine yA_ ?_
  refine RO_nil (W_reg (yM ?_))
  refine yM ?_
  refine yM ?_
  refine yM ?_
  refine yP (yV rfl rfl rfl Tryz.call228 (c_slides_Dir s _ occ _ hT h0 h1 hdi.1 hdi.2)) ?_
  refine yR (ov_bits rfl rfl rfl (.inr (.inl ⟨rfl, rfl⟩))) ?_
  refine yA_ ?_
  refine RO_nil (W_reg (yR (ov_add rfl rfl rfl ya) ?_))
  refine yM ?_
  refine RO_nil ?_
  exact ⟨i + 1, yo, yo, ⟨rfl, rfl, rfl, rfl, rfl, congrArg some (val_u64 (by exact seen_fold s occ ds i yo)), trivial⟩, yc⟩
 ·
  try simp only [yS] at hc1
  refine W_exit (w1 ((yM ?_)))
  refine yA_ ?_
  refine RO_nil (W_ret ⟨trivial, yc, (ResV_tmp1 rfl rfl ?_)⟩)
  exact val_u64 (by rw [show i = ds.length by omega, List.take_length])

theorem c_slides_Bishop (s : Int) (occ : BitVec 64) (M : List Fact) (hT : TAB ∈ M) (h0 : 0 ≤ s) (h1 : s < 64) : Pure Tryz.prog 211 [.int .i64 s, u64v occ] M (u64v (bishopB s occ)) := by
 refine pure_of_W (n := 9) Tryz.func211 rfl rfl yn ?_
 refine w1 ((yR (ov_assign (v := u64v 0#64) rfl rfl) ?_))
 refine RO_nil (w2 (fun w0 => ?_))
 refine zM ?_
 refine zM ?_
 refine LO_l rfl (by decide : 7 < 9) (ol_buildSlice (t := i64) (xs := [_, _, _, _]) rfl rfl rfl Tryz.underlying132 tok3 xaey yd yd yd (fun v1 => ?_))
 refine yQ (yV rfl rfl rfl Tryz.call224 (c_slides_seen s occ _ _ _ (.tail _ hT) h0 h1 (hl_row (.head _)) yn dirs4_Bishop)) ?_
 refine zA ?_
 refine LO_nil (W_ret ⟨trivial, yc, (ResV_tmp1 rfl rfl ?_)⟩)
 rfl

theorem c_slides_Rook (s : Int) (occ : BitVec 64) (M : List Fact) (hT : TAB ∈ M) (h0 : 0 ≤ s) (h1 : s < 64) : Pure Tryz.prog 212 [.int .i64 s, u64v occ] M (u64v (rookB s occ)) := by
 refine pure_of_W (n := 9) Tryz.func212 rfl rfl yn ?_
 refine w1 ((yR (ov_assign (v := u64v 0#64) rfl rfl) ?_))
 refine RO_nil (w2 (fun w0 => ?_))
 refine zM ?_
 refine zM ?_
 refine LO_l rfl (by decide : 7 < 9) (ol_buildSlice (t := i64) (xs := [_, _, _, _]) rfl rfl rfl Tryz.underlying132 tok3 xaey yd yd yd (fun v1 => ?_))
 refine yQ (yV rfl rfl rfl Tryz.call224 (c_slides_seen s occ _ _ _ (.tail _ hT) h0 h1 (hl_row (.head _)) yn dirs4_Rook)) ?_
 refine zA ?_
 refine LO_nil (W_ret ⟨trivial, yc, (ResV_tmp1 rfl rfl ?_)⟩)
 rfl

theorem c_slides_Queen (s : Int) (occ : BitVec 64) (M : List Fact) (hT : TAB ∈ M) (h0 : 0 ≤ s) (h1 : s < 64) : Pure Tryz.prog 213 [.int .i64 s, u64v occ] M (u64v (queenB s occ)) := by
 refine pure_of_W (n := 12) Tryz.func213 rfl rfl yn ?_
 refine w1 ((yR (ov_assign (v := u64v 0#64) rfl rfl) ?_))
 refine RO_nil (w1 ((yM ?_)))
 refine yM ?_
 refine yP (yV rfl rfl rfl Tryz.call212 (by apply c_slides_Rook <;> exact yz)) ?_
 refine yM ?_
 refine yM ?_
 refine yP (yV rfl rfl rfl Tryz.call211 (by apply c_slides_Bishop <;> exact yz)) ?_
 refine yR (ov_bits rfl rfl rfl (.inr (.inl ⟨rfl, rfl⟩))) ?_
 refine yA_ ?_
 refine RO_nil (W_ret ⟨trivial, yc, (ResV_tmp1 rfl rfl ?_)⟩)
 rfl

theorem c_rules_variants (M : List Fact) : Pure Tryz.prog 190 [] M (enc (.ar 9 varTy) varT) := by
 have hsw := varT_wf
 refine pure_of_W (n := 22) Tryz.func190 rfl rfl yn ?_
 refine w2 (fun w0 => ?_)
 refine LO_l rfl (by decide : 0 < 22) (ol_alloc (t := (.ar 9 varTy)) rfl tok184 yf (fun b1 => ?_))
 refine LO_nil (w2 (fun w0 => ?_))
 refine yL (ov_buildA (t := .bool) (ds := [(0, _), (1, _)]) rfl rfl bl149 ⟨yn, yf, ⟨yn, yf, trivial⟩⟩ rfl) ?_
 refine LO_l rfl (by decide : 1 < 22) (ol_alloc (t := (.ar 2 .bool)) rfl tok149 yf (fun b2 => ?_))
 refine LO_l rfl trivial (ol_sw0 rfl rfl rfl rfl yf tok149 ?_)
 refine LO_nil (w2 (fun w0 => ?_))
 refine yL (ov_load rfl rfl ye trivial rfl rfl tok149) ?_
 refine yL (ov_build (fs := fs150) (ds := [⟨0, _⟩, ⟨1, _⟩, ⟨2, _⟩, ⟨3, _⟩, ⟨4, _⟩, ⟨5, _⟩]) rfl rfl bl151 ⟨yn, yf, ⟨yn, yf, ⟨yn, yf, ⟨yn, yf, ⟨yn, yf, ⟨yn, yf, trivial⟩⟩⟩⟩⟩⟩ rfl) ?_
 refine yL (ov_load rfl rfl ye trivial rfl rfl tok149) ?_
 refine yL (ov_build (fs := fs150) (ds := [⟨0, _⟩, ⟨1, _⟩, ⟨2, _⟩, ⟨3, _⟩, ⟨4, _⟩, ⟨5, _⟩]) rfl rfl bl151 ⟨yn, yf, ⟨yn, yf, ⟨yn, yf, ⟨yn, yf, ⟨yn, yf, ⟨yn, yf, trivial⟩⟩⟩⟩⟩⟩ rfl) ?_
 refine yL (ov_load rfl rfl ye trivial rfl rfl tok149) ?_
 refine yL (ov_build (fs := fs150) (ds := [⟨0, _⟩, ⟨1, _⟩, ⟨2, _⟩, ⟨3, _⟩, ⟨4, _⟩, ⟨5, _⟩]) rfl rfl bl151 ⟨yn, yf, ⟨yn, yf, ⟨yn, yf, ⟨yn, yf, ⟨yn, yf, ⟨yn, yf, trivial⟩⟩⟩⟩⟩⟩ rfl) ?_
 refine yL (ov_load rfl rfl ye trivial rfl rfl tok149) ?_
 refine yL (ov_build (fs := fs150) (ds := [⟨0, _⟩, ⟨1, _⟩, ⟨2, _⟩, ⟨3, _⟩, ⟨4, _⟩, ⟨5, _⟩]) rfl rfl bl151 ⟨yn, yf, ⟨yn, yf, ⟨yn, yf, ⟨yn, yf, ⟨yn, yf, ⟨yn, yf, trivial⟩⟩⟩⟩⟩⟩ rfl) ?_
 refine yL (ov_buildA (t := .bool) (ds := []) rfl rfl bl149 trivial rfl) ?_
 refine yL (ov_build (fs := fs150) (ds := [⟨0, _⟩, ⟨1, _⟩, ⟨2, _⟩, ⟨3, _⟩, ⟨4, _⟩, ⟨5, _⟩]) rfl rfl bl151 ⟨yn, yf, ⟨yn, yf, ⟨yn, yf, ⟨yn, yf, ⟨yn, yf, ⟨yn, yf, trivial⟩⟩⟩⟩⟩⟩ rfl) ?_
 refine yL (ov_load rfl rfl ye trivial rfl rfl tok149) ?_
 refine yL (ov_build (fs := fs150) (ds := [⟨0, _⟩, ⟨1, _⟩, ⟨2, _⟩, ⟨3, _⟩, ⟨4, _⟩, ⟨5, _⟩]) rfl rfl bl151 ⟨yn, yf, ⟨yn, yf, ⟨yn, yf, ⟨yn, yf, ⟨yn, yf, ⟨yn, yf, trivial⟩⟩⟩⟩⟩⟩ rfl) ?_
 refine yL (ov_load rfl rfl ye trivial rfl rfl tok149) ?_
 refine yL (ov_build (fs := fs150) (ds := [⟨0, _⟩, ⟨1, _⟩, ⟨2, _⟩, ⟨3, _⟩, ⟨4, _⟩, ⟨5, _⟩]) rfl rfl bl151 ⟨yn, yf, ⟨yn, yf, ⟨yn, yf, ⟨yn, yf, ⟨yn, yf, ⟨yn, yf, trivial⟩⟩⟩⟩⟩⟩ rfl) ?_
 refine yL (ov_buildA (t := .bool) (ds := [(0, _), (1, _)]) rfl rfl bl149 ⟨yn, yf, ⟨yn, yf, trivial⟩⟩ rfl) ?_
 refine yL (ov_build (fs := fs150) (ds := [⟨0, _⟩, ⟨1, _⟩, ⟨2, _⟩, ⟨3, _⟩, ⟨4, _⟩, ⟨5, _⟩]) rfl rfl bl151 ⟨yn, yf, ⟨yn, yf, ⟨yn, yf, ⟨yn, yf, ⟨yn, yf, ⟨yn, yf, trivial⟩⟩⟩⟩⟩⟩ rfl) ?_
 refine yL (ov_load rfl rfl ye trivial rfl rfl tok149) ?_
 refine yL (ov_build (fs := fs150) (ds := [⟨0, _⟩, ⟨1, _⟩, ⟨2, _⟩, ⟨3, _⟩, ⟨4, _⟩, ⟨5, _⟩]) rfl rfl bl151 ⟨yn, yf, ⟨yn, yf, ⟨yn, yf, ⟨yn, yf, ⟨yn, yf, ⟨yn, yf, trivial⟩⟩⟩⟩⟩⟩ rfl) ?_
 refine yL (ov_buildA (t := varTy) (ds := [(0, _), (1, _), (2, _), (3, _), (4, _), (5, _), (6, _), (7, _), (8, _)]) rfl rfl bl184 ⟨yn, yf, ⟨yn, yf, ⟨yn, yf, ⟨yn, yf, ⟨yn, yf, ⟨yn, yf, ⟨yn, yf, ⟨yn, yf, ⟨yn, yf, trivial⟩⟩⟩⟩⟩⟩⟩⟩⟩ rfl) ?_
 refine LO_l rfl trivial (ol_sw1 rfl rfl rfl rfl yf tok184 ?_)
 refine LO_nil (W_ret ⟨trivial, yc, (ResV_cell rfl rfl ye rfl tok184 ?_)⟩)
 rfl

theorem c_rules_of (v : Int) (M : List Fact) (h0 : 0 ≤ v) : Pure Tryz.prog 147 [.int .u8 v] M (enc varTy (varOf v)) := by
 have hsw := varT_wf
 have hsv := varAt_wf v
 refine pure_of_W (n := 9) Tryz.func147 rfl rfl yn ?_
 refine w2 (fun w0 => ?_)
 refine LO_l rfl (by decide : 2 < 9) (ol_alloc (t := varTy) rfl tok151 yf (fun b1 => ?_))
 refine LO_nil (W_seq (w1 ((yM ?_))))
 refine yR (ov_geq rfl rfl rfl) ?_
 refine RO_nil (W_cond rfl (fun hc1 => ?_) (fun hc1 => ?_))
 ·
  try simp only [yS] at hc1
  refine w2 (fun w0 => ?_)
  refine yL (ov_build (fs := fs150) (ds := []) rfl rfl bl151 trivial rfl) ?_
  refine LO_l rfl trivial (ol_sw0 rfl rfl rfl rfl yf tok151 ?_)
  refine LO_nil (W_ret ⟨trivial, yc, (ResV_cell rfl rfl ye rfl tok151 ?_)⟩)
  exact val_enc (by unfold varOf; first | exact (if_pos xaky).symm | exact (if_neg xaky).symm)
 ·
  try simp only [yS] at hc1
  refine W_skip (w2 (fun w0 => ?_))
  refine yQ (yV rfl rfl rfl Tryz.call190 (by apply c_rules_variants <;> exact yz)) ?_
  refine zM ?_
  refine yL (ov_index (t := (.ar 9 varTy)) rfl rfl yf rfl rfl Tryz.underlying184 ya ya (tn ya ya) rfl rfl rfl tok151) ?_
  refine LO_l rfl trivial (ol_sw0 rfl rfl rfl rfl yf tok151 ?_)
  refine LO_nil (W_ret ⟨trivial, yc, (ResV_cell rfl rfl ye rfl tok151 ?_)⟩)
  exact val_enc (by unfold varOf; first | exact (if_pos xaky).symm | exact (if_neg xaky).symm)

theorem c_rules_Royal (v c : Int) (M : List Fact) (h0 : 0 ≤ v) (h1 : 0 ≤ c) : Pure Tryz.prog 73 [.int .u8 v, .int .u8 c] M (.bool (royalP v c)) := by
 have hsv := varOf_wf v
 have hsr : wf (.ar 2 .bool) (varOf v).2.1 := hsv.2.1
 refine pure_of_W (n := 14) Tryz.func73 rfl rfl yn ?_
 refine w1 ((yA_ ?_))
 refine RO_nil (w1 ((yM ?_)))
 refine yR (ov_leq rfl rfl rfl) ?_
 refine yM ?_
 refine gM ?_
 refine yG (fun hg => yV rfl rfl (looks_cons (look_gv rfl (bq hg)) looks_nil) Tryz.call147 (by apply c_rules_of <;> exact yz)) ?_
 refine yG (fun hg => OpX.v (ov_field (t := varTy) rfl (look_gv rfl (bq hg)) yf rfl Tryz.underlying151 rfl yn rfl rfl rfl tok149)) ?_
 refine gM ?_
 refine RO_g1 rfl rfl rfl rfl rfl yd (fun hg => by have hgx := hg; (try simp only [yS] at hgx); exact OpX.v (ov_index (t := (.ar 2 .bool)) rfl (look_gv rfl (bq hg)) yf rfl (look_gv rfl (bq hg)) Tryz.underlying149 ya ya (tn ya ya) rfl rfl rfl tok4)) ?_
 refine yR (ov_and rfl rfl rfl rfl (fun h => bq h)) ?_
 refine yA_ ?_
 refine RO_nil (W_ret ⟨trivial, yc, (ResV_tmp1 rfl rfl ?_)⟩)
 rfl

theorem c_rules_Castles (v : Int) (M : List Fact) (h0 : 0 ≤ v) : Pure Tryz.prog 138 [.int .u8 v] M (.bool (castlesP v)) := by
 have hsv := varOf_wf v
 refine pure_of_W (n := 6) Tryz.func138 rfl rfl yn ?_
 refine w1 ((yA_ ?_))
 refine RO_nil (w1 ((yM ?_)))
 refine yP (yV rfl rfl rfl Tryz.call147 (by apply c_rules_of <;> exact yz)) ?_
 refine yR (ov_field (t := varTy) rfl rfl yf rfl Tryz.underlying151 rfl yn rfl rfl rfl tok4) ?_
 refine yA_ ?_
 refine RO_nil (W_ret ⟨trivial, yc, (ResV_tmp1 rfl rfl ?_)⟩)
 rfl

theorem c_rules_Pockets (v : Int) (M : List Fact) (h0 : 0 ≤ v) : Pure Tryz.prog 161 [.int .u8 v] M (.bool (pocketsP v)) := by
 have hsv := varOf_wf v
 refine pure_of_W (n := 6) Tryz.func161 rfl rfl yn ?_
 refine w1 ((yA_ ?_))
 refine RO_nil (w1 ((yM ?_)))
 refine yP (yV rfl rfl rfl Tryz.call147 (by apply c_rules_of <;> exact yz)) ?_
 refine yR (ov_field (t := varTy) rfl rfl yf rfl Tryz.underlying151 rfl yn rfl rfl rfl tok4) ?_
 refine yA_ ?_
 refine RO_nil (W_ret ⟨trivial, yc, (ResV_tmp1 rfl rfl ?_)⟩)
 rfl
end Go.Kw
set_option linter.unusedVariables false
namespace Go.Kw
open Go.Proofs
theorem tok180 : TyOK Tryz.prog 180 .fn := ⟨Tryz.isAgg180, Tryz.sizeOf180, Tryz.zeroValue180⟩
theorem tok182 : TyOK Tryz.prog 182 (.st [.fn]) := ⟨Tryz.isAgg182, Tryz.sizeOf182, Tryz.zeroValue182⟩
theorem tok193 : TyOK Tryz.prog 193 (.ar 7 (.st [.fn])) := ⟨Tryz.isAgg193, Tryz.sizeOf193, Tryz.zeroValue193⟩
abbrev fs181 : List Ty := [.fn]
theorem bl182 : BuildOK Tryz.prog 182 fs181 := ⟨_, _, rfl, rfl, Tryz.underlying182, by kernel_rfl⟩
theorem bl193 : BuildOKa Tryz.prog 193 7 (.st [.fn]) := ⟨_, _, _, rfl, rfl, Tryz.underlying193, rfl, rfl⟩
theorem fa182_0 : FA Tryz.prog 182 0 0 := fun a w => by simp [Instr.fieldAt, Tryz.runUnderlying182, Instr.sureAddr, fieldPlace, Tryz.sizeOf180]

def wsT (c1 c2 c3 c4 c5 : Nat) : List (El (.st [.fn])) := [((none : FnV), ()), ((some (219, [], []) : FnV), ()), ((some (226, [], [.pointer (some ⟨c1, 0, none⟩)]) : FnV), ()), ((some (227, [], [.pointer (some ⟨c4, 0, none⟩)]) : FnV), ()), ((some (227, [], [.pointer (some ⟨c3, 0, none⟩)]) : FnV), ()), ((some (227, [], [.pointer (some ⟨c5, 0, none⟩)]) : FnV), ()), ((some (226, [], [.pointer (some ⟨c2, 0, none⟩)]) : FnV), ())]
def wsF (c1 c2 c3 c4 c5 : Nat) : List Fact := [.one c5 195 (.func (.func 213) #[] #[]), .one c4 195 (.func (.func 211) #[] #[]), .one c3 195 (.func (.func 212) #[] #[]), .one c2 148 (.func (.func 139) #[] #[]), .one c1 148 (.func (.func 210) #[] #[])]
def wayB (kd c s : Int) (occ : BitVec 64) : BitVec 64 := if kd = 1 then pawnB c s else if kd = 2 then knightB s else if kd = 3 then bishopB s occ else if kd = 4 then rookB s occ else if kd = 5 then queenB s occ else kingB s
def WayOK (w : El (.st [.fn])) (F : List Fact) (kd : Int) : Prop := ∃ cf cv, w.1 = some (cf, [], cv) ∧ (∀ av w, (callFunc cf av).run Tryz.prog w = .ok (.enter cf av) w) ∧
  ∀ M c s occ, TAB ∈ M → 0 ≤ c → c ≤ 1 → 0 ≤ s → s < 64 → Pure Tryz.prog cf (.int .u8 c :: .int .i64 s :: u64v occ :: cv) (F ++ M) (u64v (wayB kd c s occ))
def PreW : Nat → List Value → List Fact → Prop := fun j vals F => ∃ w : El (.st [.fn]), vals = [.int .u8 ((j : Int) + 1), enc (.st [.fn]) w] ∧ WayOK w F ((j : Int) + 1)
def byWay (p : Pos) (s c : Int) (i : Nat) : BitVec 64 := wayB ((i : Int) + 1) (1 - c) s (allB p) &&& ofB p c ((i : Int) + 1)
def byB (p : Pos) (s c : Int) : BitVec 64 := if (s < 0 ∨ 64 ≤ s) ∨ 1 < c then 0#64 else orTo (byWay p s c) 6
theorem permF (X F M : List Fact) : List.Perm (X ++ (F ++ M)) (F ++ (X ++ M)) := by
  rw [← List.append_assoc, ← List.append_assoc]
  exact List.Perm.append_right _ List.perm_append_comm

theorem c_attack_there (s : Int) (M : List Fact) : Pure Tryz.prog 182 [.int .i64 s] M (.bool (decide (0 ≤ s) && decide (s < 64))) := by
 refine pure_of_W (n := 9) Tryz.func182 rfl rfl yn ?_
 refine w1 ((yA_ ?_))
 refine RO_nil (w1 ((yM ?_)))
 refine yR (ov_geq rfl rfl rfl) ?_
 refine yM ?_
 refine gM ?_
 refine yG (fun hg => OpX.v (ov_lss rfl (look_gv rfl (bq hg)) rfl)) ?_
 refine yR (ov_and rfl rfl rfl rfl (fun h => bq h)) ?_
 refine yA_ ?_
 refine RO_nil (W_ret ⟨trivial, yc, (ResV_tmp1 rfl rfl ?_)⟩)
 rfl

theorem c_attack_step (fv : Value) (M : List Fact) (hfv : fv.oneCell' = true) : Con Tryz.prog 220 [fv] M (fun v M' => ∃ c1, v = enc (.st [.fn]) ((some (226, [], [.pointer (some ⟨c1, 0, none⟩)]) : FnV), ()) ∧ M' = .one c1 148 fv :: M) := by
 refine con_of_W (n := 5) Tryz.func220 rfl rfl yn ?_
 refine w2 (fun w0 => ?_)
 refine LO_l rfl (by decide : 1 < 5) (ol_box1 rfl rfl hfv (fun b1 => ?_))
 refine LO_l rfl (by decide : 2 < 5) (ol_alloc (t := (.st [.fn])) rfl tok182 yf (fun b2 => ?_))
 refine LO_nil (w2 (fun w0 => ?_))
 refine yL (ov_makeFunc rfl rfl rfl) ?_
 refine yL (ov_build (fs := fs181) (ds := [⟨0, (some (226, [], [.pointer (some ⟨b1, 0, none⟩)]) : FnV)⟩]) rfl rfl bl182 ⟨yn, yf, trivial⟩ rfl) ?_
 refine LO_l rfl trivial (ol_sw0 rfl rfl rfl rfl yf tok182 ?_)
 refine LO_nil (W_ret ⟨trivial, _, .one b1 148 fv :: M, (ResV_cell rfl rfl ye rfl tok182 rfl), yc, ?_⟩)
 exact ⟨b1, rfl, rfl⟩

theorem c_attack_slide (fv : Value) (M : List Fact) (hfv : fv.oneCell' = true) : Con Tryz.prog 221 [fv] M (fun v M' => ∃ c1, v = enc (.st [.fn]) ((some (227, [], [.pointer (some ⟨c1, 0, none⟩)]) : FnV), ()) ∧ M' = .one c1 195 fv :: M) := by
 refine con_of_W (n := 5) Tryz.func221 rfl rfl yn ?_
 refine w2 (fun w0 => ?_)
 refine LO_l rfl (by decide : 1 < 5) (ol_box1 rfl rfl hfv (fun b1 => ?_))
 refine LO_l rfl (by decide : 2 < 5) (ol_alloc (t := (.st [.fn])) rfl tok182 yf (fun b2 => ?_))
 refine LO_nil (w2 (fun w0 => ?_))
 refine yL (ov_makeFunc rfl rfl rfl) ?_
 refine yL (ov_build (fs := fs181) (ds := [⟨0, (some (227, [], [.pointer (some ⟨b1, 0, none⟩)]) : FnV)⟩]) rfl rfl bl182 ⟨yn, yf, trivial⟩ rfl) ?_
 refine LO_l rfl trivial (ol_sw0 rfl rfl rfl rfl yf tok182 ?_)
 refine LO_nil (W_ret ⟨trivial, _, .one b1 195 fv :: M, (ResV_cell rfl rfl ye rfl tok182 rfl), yc, ?_⟩)
 exact ⟨b1, rfl, rfl⟩

theorem c_attack_step_1 (c s : Int) (occ r : BitVec 64) (cf : FuncId) (cv : List Value) (b1 t1 : Nat) (M : List Fact) (hcf : ∀ av w, (callFunc cf av).run Tryz.prog w = .ok (.enter cf av) w) (m1 : Fact.one b1 t1 (.func (.func cf) #[] cv.toArray) ∈ M) (hh : Pure Tryz.prog cf (.int .i64 s :: cv) M (u64v r)) : Pure Tryz.prog 226 [.int .u8 c, .int .i64 s, u64v occ, .pointer (some ⟨b1, 0, none⟩)] M (u64v r) := by
 refine pure_of_W (n := 11) Tryz.func226 rfl rfl yn ?_
 refine w1 ((yR (ov_assign (v := u64v 0#64) rfl rfl) ?_))
 refine RO_nil (w1 ((yR (ov_load1 rfl rfl ye Tryz.isAgg148) ?_)))
 refine yM ?_
 refine yP (ov_call  rfl rfl rfl hcf hh) ?_
 refine yA_ ?_
 refine RO_nil (W_ret ⟨trivial, yc, (ResV_tmp1 rfl rfl ?_)⟩)
 rfl

theorem c_attack_slide_1 (c s : Int) (occ r : BitVec 64) (cf : FuncId) (cv : List Value) (b1 t1 : Nat) (M : List Fact) (hcf : ∀ av w, (callFunc cf av).run Tryz.prog w = .ok (.enter cf av) w) (m1 : Fact.one b1 t1 (.func (.func cf) #[] cv.toArray) ∈ M) (hh : Pure Tryz.prog cf (.int .i64 s :: u64v occ :: cv) M (u64v r)) : Pure Tryz.prog 227 [.int .u8 c, .int .i64 s, u64v occ, .pointer (some ⟨b1, 0, none⟩)] M (u64v r) := by
 refine pure_of_W (n := 12) Tryz.func227 rfl rfl yn ?_
 refine w1 ((yR (ov_assign (v := u64v 0#64) rfl rfl) ?_))
 refine RO_nil (w1 ((yR (ov_load1 rfl rfl ye Tryz.isAgg195) ?_)))
 refine yM ?_
 refine yM ?_
 refine yP (ov_call  rfl rfl rfl hcf hh) ?_
 refine yA_ ?_
 refine RO_nil (W_ret ⟨trivial, yc, (ResV_tmp1 rfl rfl ?_)⟩)
 rfl

theorem c_attack_ways_1 (c s : Int) (occ : BitVec 64) (M : List Fact) : Pure Tryz.prog 219 [.int .u8 c, .int .i64 s, u64v occ] M (u64v (pawnB c s)) := by
 refine pure_of_W (n := 10) Tryz.func219 rfl rfl yn ?_
 refine w1 ((yR (ov_assign (v := u64v 0#64) rfl rfl) ?_))
 refine RO_nil (w1 ((yM ?_)))
 refine yM ?_
 refine yP (yV rfl rfl rfl Tryz.call116 (by apply c_rays_Pawn <;> exact yz)) ?_
 refine yA_ ?_
 refine RO_nil (W_ret ⟨trivial, yc, (ResV_tmp1 rfl rfl ?_)⟩)
 rfl

theorem c_attack_ways (M : List Fact) : Con Tryz.prog 208 [] M (fun v M' => ∃ c1 c2 c3 c4 c5 : Nat, v = enc (.ar 7 (.st [.fn])) (wsT c1 c2 c3 c4 c5) ∧ M' = wsF c1 c2 c3 c4 c5 ++ M) := by
 refine con_of_W (n := 8) Tryz.func208 rfl rfl yn ?_
 refine w2 (fun w0 => ?_)
 refine LO_l rfl (by decide : 0 < 8) (ol_alloc (t := (.ar 7 (.st [.fn]))) rfl tok193 yf (fun b1 => ?_))
 refine LO_nil (w2 (fun w0 => ?_))
 refine yL (ov_build (fs := fs181) (ds := [⟨0, (some (219, [], []) : FnV)⟩]) rfl rfl bl182 ⟨yn, yf, trivial⟩ rfl) ?_
 refine LO_l rfl (by decide : 2 < 8) (ol_call (v0 := []) (v2 := []) rfl rfl rfl Tryz.call220 (Con.mono (by apply c_attack_step <;> exact yz) (fun v M' h => ?_)))
 obtain ⟨c1, rfl, rfl⟩ := h
 refine LO_l rfl (by decide : 3 < 8) (ol_call (v0 := []) (v2 := []) rfl rfl rfl Tryz.call220 (Con.mono (by apply c_attack_step <;> exact yz) (fun v M' h => ?_)))
 obtain ⟨c2, rfl, rfl⟩ := h
 refine LO_l rfl (by decide : 4 < 8) (ol_call (v0 := []) (v2 := []) rfl rfl rfl Tryz.call221 (Con.mono (by apply c_attack_slide <;> exact yz) (fun v M' h => ?_)))
 obtain ⟨c3, rfl, rfl⟩ := h
 refine LO_l rfl (by decide : 5 < 8) (ol_call (v0 := []) (v2 := []) rfl rfl rfl Tryz.call221 (Con.mono (by apply c_attack_slide <;> exact yz) (fun v M' h => ?_)))
 obtain ⟨c4, rfl, rfl⟩ := h
 refine LO_l rfl (by decide : 6 < 8) (ol_call (v0 := []) (v2 := []) rfl rfl rfl Tryz.call221 (Con.mono (by apply c_attack_slide <;> exact yz) (fun v M' h => ?_)))
 obtain ⟨c5, rfl, rfl⟩ := h
 refine yL (ov_buildA (t := (.st [.fn])) (ds := [(1, _), (2, _), (6, _), (4, _), (3, _), (5, _)]) rfl rfl bl193 ⟨yn, yf, ⟨yn, yf, ⟨yn, yf, ⟨yn, yf, ⟨yn, yf, ⟨yn, yf, trivial⟩⟩⟩⟩⟩⟩ rfl) ?_
 refine LO_l rfl trivial (ol_sw5 rfl rfl rfl rfl yf tok193 ?_)
 refine LO_nil (W_ret ⟨trivial, _, wsF c1 c2 c3 c4 c5 ++ M, (ResV_cell rfl rfl ye rfl tok193 rfl), ((((((List.Sublist.cons _ (List.Sublist.refl M)).cons_cons _).cons_cons _).cons_cons _).cons_cons _).cons_cons _), ?_⟩)
 exact ⟨c1, c2, c3, c4, c5, rfl, rfl⟩

theorem c_attack_kinds (M : List Fact) : Pure Tryz.prog 183 [] M (.func (.func 207) #[] #[]) := by
 refine pure_of_W (n := 1) Tryz.func183 rfl rfl yn ?_
 refine w1 ((yA_ ?_))
 refine RO_nil (w1 ((yA_ ?_)))
 refine RO_nil (W_ret ⟨trivial, yc, (ResV_tmp1 rfl rfl ?_)⟩)
 rfl

theorem ways_ok (c1 c2 c3 c4 c5 j : Nat) (hj : j < 6) : WayOK ((wsT c1 c2 c3 c4 c5).getD (j + 1) (zero (.st [.fn]))) (wsF c1 c2 c3 c4 c5) ((j : Int) + 1) := by
  have : j = 0 ∨ j = 1 ∨ j = 2 ∨ j = 3 ∨ j = 4 ∨ j = 5 := by omega
  rcases this with rfl | rfl | rfl | rfl | rfl | rfl
  · exact ⟨_, _, rfl, Tryz.call219, fun M c s occ hT hc0 hc1 hs0 hs1 => c_attack_ways_1 c s occ _⟩
  · exact ⟨_, _, rfl, Tryz.call226, fun M c s occ hT hc0 hc1 hs0 hs1 => c_attack_step_1 c s occ (knightB s) 210 [] c1 _ _ Tryz.call210 (.tail _ (.tail _ (.tail _ (.tail _ (.head _))))) (c_rays_Knight s _)⟩
  · exact ⟨_, _, rfl, Tryz.call227, fun M c s occ hT hc0 hc1 hs0 hs1 => c_attack_slide_1 c s occ (bishopB s occ) 211 [] c4 _ _ Tryz.call211 (.tail _ (.head _)) (c_slides_Bishop s occ _ (List.mem_append.2 (.inr hT)) hs0 hs1)⟩
  · exact ⟨_, _, rfl, Tryz.call227, fun M c s occ hT hc0 hc1 hs0 hs1 => c_attack_slide_1 c s occ (rookB s occ) 212 [] c3 _ _ Tryz.call212 (.tail _ (.tail _ (.head _))) (c_slides_Rook s occ _ (List.mem_append.2 (.inr hT)) hs0 hs1)⟩
  · exact ⟨_, _, rfl, Tryz.call227, fun M c s occ hT hc0 hc1 hs0 hs1 => c_attack_slide_1 c s occ (queenB s occ) 213 [] c5 _ _ Tryz.call213 (.head _) (c_slides_Queen s occ _ (List.mem_append.2 (.inr hT)) hs0 hs1)⟩
  · exact ⟨_, _, rfl, Tryz.call226, fun M c s occ hT hc0 hc1 hs0 hs1 => c_attack_step_1 c s occ (kingB s) 139 [] c2 _ _ Tryz.call139 (.tail _ (.tail _ (.tail _ (.head _)))) (c_rays_King s _)⟩

theorem c_attack_kinds_1  : Seq Tryz.prog 207 [] [] 6 PreW := by
 intro cb Mc Mx hy M hM
 refine con_of_G (n := 16) Tryz.func207 rfl rfl yn ?_
 show G Tryz.prog none 16 _ _ _ _ (M)
 refine G_seq (G_regl (fun w0 => ?_))
 refine GO_l rfl (by decide : 4 < 16) (ol_call (v0 := []) (v2 := []) rfl rfl rfl Tryz.call208 (Con.mono (by apply c_attack_ways <;> exact yz) (fun v M' h => ?_)))
 obtain ⟨c1, c2, c3, c4, c5, rfl, rfl⟩ := h
 refine GO_l rfl (by decide : 2 < 16) (ol_alloc (t := (.ar 7 (.st [.fn]))) rfl tok193 yf (fun b1 => ?_))
 refine GO_l rfl trivial (ol_sw0 rfl rfl rfl rfl yf tok193 ?_)
 refine GO_nil (G_seq (G_regl (fun w0 => ?_)))
 refine GO_op rfl rfl yd (OpX.v (ov_assign rfl rfl)) ?_
 refine GO_nil (G_block (G_loop (σ := Nat × List Fact) (fun s => s.1 ≤ 6 ∧ Mc s.1 s.2) (fun s => [(0, cb), (2, ptrv b1 (.ar 7 (.st [.fn])) []), (3, .int .u8 ((s.1 : Int) + 1))]) (fun s => .box b1 193 (.ar 7 (.st [.fn])) (wsT c1 c2 c3 c4 c5) :: (wsF c1 c2 c3 c4 c5 ++ s.2)) (fun s => 6 - s.1) ((0, M)) ⟨by simp, hM⟩ ⟨rfl, rfl, rfl, trivial⟩ yc ?_))
 rintro ⟨j, Mq⟩ ⟨hj, hq⟩
 simp only at hj hq
 refine G_seq (G_seq (G_regl (fun w0 => ?_)))
 refine GO_op rfl rfl yd (OpX.v (ov_move rfl rfl)) ?_
 refine GO_op rfl rfl yd (OpX.v (ov_leq rfl rfl rfl)) ?_
 refine GO_nil (G_cond rfl (fun hc1 => ?_) (fun hc1 => ?_))
 ·
  try simp only [yS] at hc1
  refine G_skip ?_
  refine G_seq (G_block (G_seq (G_regl (fun w0 => ?_))))
  refine GO_op rfl rfl yd (OpX.v (ov_move rfl rfl)) ?_
  refine GO_op rfl rfl yd (OpX.v (ov_move rfl rfl)) ?_
  refine GO_op rfl rfl yd (OpX.v (ov_move rfl rfl)) ?_
  refine GO_op rfl rfl yd (OpX.v (ov_indexAddr rfl rfl rfl Tryz.underlying193 rfl Tryz.sizeOf182 yo yo)) ?_
  refine GO_op rfl rfl yd (OpX.v (ov_load rfl rfl ye ⟨trivial, (tn ya ya)⟩ rfl rfl tok182)) ?_
  refine GO_callv rfl (by decide : 14 < 16) rfl rfl rfl (CallV.mono (CallV.frame (A := [_]) (hy j _ (wsF c1 c2 c3 c4 c5) _ yo ⟨_, rfl, ways_ok c1 c2 c3 c4 c5 j yo⟩ hq)) ?_)
  rintro v M' ⟨_, rfl, M1, rfl, (⟨rfl, hq1⟩ | ⟨rfl, hq1⟩)⟩
  ·
   show GO Tryz.prog none 16 [] _ _ _ _ _ _ (.box b1 193 (.ar 7 (.st [.fn])) (wsT c1 c2 c3 c4 c5) :: (wsF c1 c2 c3 c4 c5 ++ M1))
   refine GO_op rfl rfl yd (OpX.v (ov_not rfl rfl)) ?_
   refine GO_nil (G_condf rfl ?_)
   refine G_skip ?_
   refine G_regl (fun w0 => ?_)
   refine GO_op rfl rfl yd (OpX.v (ov_move rfl rfl)) ?_
   refine GO_op rfl rfl yd (OpX.v (ov_add rfl rfl rfl ya)) ?_
   refine GO_op rfl rfl yd (OpX.v (ov_assign rfl rfl)) ?_
   refine GO_nil ?_
   exact ⟨rfl, (j + 1, M1), xaly, ⟨by simp only; omega, hq1⟩, ⟨rfl, rfl, rfl, trivial⟩, yc⟩
  ·
   show GO Tryz.prog none 16 [] _ _ _ _ _ _ (.box b1 193 (.ar 7 (.st [.fn])) (wsT c1 c2 c3 c4 c5) :: (wsF c1 c2 c3 c4 c5 ++ M1))
   refine GO_op rfl rfl yd (OpX.v (ov_not rfl rfl)) ?_
   refine GO_nil (G_condt rfl ?_)
   refine G_ret ?_
   refine ⟨trivial, .inl ⟨rfl, _, _, (ResV_none rfl), yc, ?_⟩⟩
   first | exact .inl ⟨Mq, (List.sublist_append_right _ _).cons _, by rw [show 6 = j by omega]; exact hq⟩ | exact .inr ⟨j, M1, by omega, (List.sublist_append_right _ _).cons _, hq1⟩
 ·
  try simp only [yS] at hc1
  refine G_exit ?_
  refine ⟨trivial, .inl ⟨rfl, _, _, (ResV_none rfl), yc, ?_⟩⟩
  first | exact .inl ⟨Mq, (List.sublist_append_right _ _).cons _, by rw [show 6 = j by omega]; exact hq⟩ | exact .inr ⟨j, M1, by omega, (List.sublist_append_right _ _).cons _, hq1⟩

theorem c_attack_By (p : Pos) (hp : POK p) (s c : Int) (M : List Fact) (hT : TAB ∈ M) (h0 : 0 ≤ c) (h1 : c ≤ 255) : Pure Tryz.prog 140 [enc posT p, .int .i64 s, .int .u8 c] M (u64v (byB p s c)) := by
 obtain ⟨hb, hpw, hvr, htu, hpg, hvr0, htu0⟩ := hp.head
 refine pure_of_G (n := 38) Tryz.func140 rfl rfl yn ?_
 refine G_seq (G_regl (fun w0 => ?_))
 refine GO_l rfl (by decide : 3 < 38) (ol_box (t := posT) rfl rfl rfl yf (fun b1 => ?_))
 refine GO_l rfl (by decide : 4 < 38) (ol_box (t := i64) rfl rfl rfl yf (fun b2 => ?_))
 refine GO_l rfl (by decide : 5 < 38) (ol_box (t := u8) rfl rfl rfl yf (fun b3 => ?_))
 refine GO_op rfl rfl yd (OpX.v (ov_assign (v := u64v 0#64) rfl rfl)) ?_
 refine GO_nil (G_seq (G_seq (G_regl (fun w0 => ?_))))
 refine GO_op rfl rfl yd (OpX.v (ov_load rfl rfl ye trivial rfl rfl tok3)) ?_
 refine GO_op rfl rfl yd (yV rfl rfl rfl Tryz.call182 (by apply c_attack_there <;> exact yz)) ?_
 refine GO_op rfl rfl yd (OpX.v (ov_not rfl rfl)) ?_
 refine GO_op rfl rfl yd (OpX.v (ov_move rfl rfl)) ?_
 refine GO_g1 rfl rfl rfl rfl rfl yd (fun hg => OpX.v (ov_load rfl rfl ye trivial rfl rfl tok5)) ?_
 refine GO_g1 rfl rfl rfl rfl rfl yd (fun hg => OpX.v (ov_gtr rfl (look_gv rfl (bq hg)) rfl)) ?_
 refine GO_op rfl rfl yd (OpX.v (ov_or rfl rfl rfl rfl (fun h => bq h))) ?_
 refine GO_nil (G_cond rfl (fun hc1 => ?_) (fun hc1 => ?_))
 ·
  try simp only [yS] at hc1
  refine G_seq (G_regl (fun w0 => ?_))
  refine GO_op rfl rfl yd (OpX.v (ov_assign (v := u64v 0#64) rfl rfl)) ?_
  refine GO_nil (G_ret ?_)
  refine ⟨trivial, .inl ⟨rfl, _, M, (ResV_tmp1 rfl rfl ?_), yc, rfl, rfl⟩⟩
  exact val_u64 (by unfold byB; first | exact (if_pos xaky).symm | exact (if_neg xaky).symm)
 ·
  try simp only [yS] at hc1
  refine G_skip ?_
  refine G_seq (G_regl (fun w0 => ?_))
  refine GO_l rfl (by decide : 7 < 38) (ol_alloc (t := u64) rfl tok23 yf (fun b4 => ?_))
  refine GO_nil (G_seq (G_regl (fun w0 => ?_)))
  refine GO_op rfl rfl yd (OpX.v (ov_load rfl rfl ye trivial rfl rfl tok31)) ?_
  refine GO_op rfl rfl yd (yV rfl rfl rfl Tryz.call162 (by apply c_board_All <;> exact yz)) ?_
  refine GO_l rfl (by decide : 8 < 38) (ol_alloc (t := u64) rfl tok23 yf (fun b5 => ?_))
  refine GO_l rfl trivial (ol_sw0 rfl rfl rfl rfl yf tok23 ?_)
  refine GO_nil (G_seq (G_seq (G_regl (fun w0 => ?_))))
  refine GO_op rfl rfl yd (yV rfl rfl rfl Tryz.call183 (by apply c_attack_kinds <;> exact yz)) ?_
  refine GO_nil (G_block (G_range rfl Tryz.call207 (c_attack_kinds_1) (by rintro k vals F ⟨w, rfl, _⟩; rfl) yd (fun k M' => M' = .box b5 23 u64 (allB p) :: .box b4 23 u64 (orTo (byWay p s c) k) :: .box b3 5 u8 c :: .box b2 3 i64 s :: .box b1 31 posT p :: M) (fun _ _ => False) (A := []) (M0 := .box b5 23 u64 (allB p) :: .box b4 23 u64 (orTo (byWay p s c) 0) :: .box b3 5 u8 c :: .box b2 3 i64 s :: .box b1 31 posT p :: M) (List.Perm.refl _) (rfl) ?_ ?_ ?_))
  ·
   rintro l j vals F M1 hk ⟨w, rfl, cf, cv, hw, hcf, hp6⟩ rfl
   refine G_perm (M1 := .box b5 23 u64 (allB p) :: .box b4 23 u64 (orTo (byWay p s c) j) :: .box b3 5 u8 c :: .box b2 3 i64 s :: .box b1 31 posT p :: (F ++ M)) (permF [_, _, _, _, _] F M) ?_
   refine G_seq (G_regl (fun w0 => ?_))
   refine GO_op rfl rfl yd (OpX.v (ov_assign rfl rfl)) ?_
   refine GO_nil (G_regl (fun w0 => ?_))
   refine GO_l rfl (by decide : 10 < 38) (ol_alloc (t := (.st [.fn])) rfl tok182 yf (fun b6 => ?_))
   refine GO_l rfl trivial (ol_sw0 rfl rfl rfl rfl yf tok182 ?_)
   refine GO_nil ⟨rfl, ?_⟩
   refine G_block (G_regD (fun i => !Nat.beq i 14) mixed rfl (fun w0 => ?_))
   refine D_mem0 (i := 0) rfl yk yk rfl rfl yd (ov_load rfl rfl ye trivial rfl rfl tok23) ?_
   refine D_mem0 (i := 1) rfl yk yk rfl rfl yd (ov_fieldAddr rfl rfl fa182_0 rfl) ?_
   refine D_mem0 (i := 2) rfl yk yk rfl rfl yd (ov_load (v := .func (.func cf) #[] cv.toArray) rfl rfl ye ⟨trivial, yn⟩ rfl (by show some (encFn w.1) = _; rw [hw]; rfl) tok180) ?_
   refine D_mem0 (i := 3) rfl yk yk rfl rfl yd (ov_load rfl rfl ye trivial rfl rfl tok5) ?_
   refine D_mem0 (i := 4) rfl yk yk rfl rfl yd (ov_sub rfl rfl rfl ya) ?_
   refine D_mem0 (i := 5) rfl yk yk rfl rfl yd (ov_load rfl rfl ye trivial rfl rfl tok3) ?_
   refine D_mem0 (i := 6) rfl yk yk rfl rfl yd (ov_load rfl rfl ye trivial rfl rfl tok23) ?_
   refine D_mem0 (i := 8) rfl yk yk rfl rfl yd (ov_load rfl rfl ye trivial rfl rfl tok31) ?_
   refine D_mem0 (i := 9) rfl yk yk rfl rfl yd (ov_load rfl rfl ye trivial rfl rfl tok5) ?_
   refine D_mem0 (i := 10) rfl yk yk rfl rfl yd (ov_move rfl rfl) ?_
   refine D_oneV (i := 7) rfl yk rfl rfl yd xagy (ov_call  rfl rfl rfl hcf (Pure.frame (A := [_, _, _, _, _, _]) (hp6 M (1 - c) s (allB p) hT yo yo yo yo))) ?_
   refine D_oneV (i := 11) rfl yk rfl rfl yd xagy (yV rfl rfl rfl Tryz.call117 xavy) ?_
   refine D_oneV (i := 12) rfl yk rfl rfl yd xagy (OpX.v (ov_bits rfl rfl rfl (.inl ⟨rfl, rfl⟩))) ?_
   refine D_oneV (i := 13) rfl yk rfl rfl yd xagy (OpX.v (ov_bits rfl rfl rfl (.inr (.inl ⟨rfl, rfl⟩)))) ?_
   refine D_one (i := 14) rfl yk rfl trivial (ol_sw2 rfl rfl rfl rfl yf tok23 ⟨xagy, ?_⟩)
   refine D_end yk ?_
   exact ⟨_, ((permF [_, _, _, _, _] F M).symm.cons _), _, (List.Sublist.cons _ (List.Sublist.refl _)), _, rfl, rfl⟩
  ·
   rintro D M1 rfl
   refine G_seq (G_regl (fun w0 => ?_))
   refine GO_op rfl rfl yd (OpX.v (ov_load rfl rfl ye trivial rfl rfl tok23)) ?_
   refine GO_op rfl rfl yd (OpX.v (ov_assign rfl rfl)) ?_
   refine GO_nil (G_ret ?_)
   refine ⟨trivial, .inr ⟨_, _, rfl, rfl, _, M, (ResV_tmp1 rfl rfl ?_), yc, rfl, rfl⟩⟩
   exact val_u64 (by unfold byB; first | exact (if_pos xaky).symm | exact (if_neg xaky).symm)
  ·
   rintro _ _ _ _ h; exact h.elim
end Go.Kw
set_option linter.unusedVariables false
namespace Go.Kw
open Go.Proofs


def kingP (p : Pos) (c : Int) : Int := if (!royalP (vr p) c) = true then -1 else if (decide (firstB (ofB p c 6) < 0) || (decide (vr p = 3) && !decide (kingB (firstB (ofB p c 6)) &&& ofB p (1 - c) 6 = 0#64))) = true then -1 else firstB (ofB p c 6)
theorem firstB_rng (b : BitVec 64) : -1 ≤ firstB b ∧ firstB b < 64 := by
  by_cases h : b = 0#64
  · subst h; decide
  · have := low_rng h; omega
theorem kingP_rng (p : Pos) (c : Int) : -1 ≤ kingP p c ∧ kingP p c < 64 := by
  have := firstB_rng (ofB p c 6)
  unfold kingP; (repeat split) <;> omega
theorem king_m1 {x : Int} (h : x = -1) : Value.tuple #[.int .i64 0, .bool false] = .tuple #[.int .i64 (if x < 0 then 0 else x), .bool (decide (0 ≤ x))] := by subst h; rfl
theorem king_s {x s : Int} (h : x = s) (h0 : 0 ≤ s) : Value.tuple #[.int .i64 s, .bool true] = .tuple #[.int .i64 (if x < 0 then 0 else x), .bool (decide (0 ≤ x))] := by
  subst h; rw [if_neg yo, decide_eq_true h0]
def checkP (p : Pos) (c : Int) : Bool := decide (0 ≤ kingP p c) && !decide (byB p (if kingP p c < 0 then 0 else kingP p c) (1 - c) = 0#64)

theorem c_attack_On (p : Pos) (hp : POK p) (s c : Int) (M : List Fact) (hT : TAB ∈ M) (h0 : 0 ≤ c) (h1 : c ≤ 255) : Pure Tryz.prog 71 [enc posT p, .int .i64 s, .int .u8 c] M (.bool (!decide (byB p s c = 0#64))) := by
 obtain ⟨hb, hpw, hvr, htu, hpg, hvr0, htu0⟩ := hp.head
 refine pure_of_W (n := 12) Tryz.func71 rfl rfl yn ?_
 refine w2 (fun w0 => ?_)
 refine LO_l rfl (by decide : 3 < 12) (ol_box (t := posT) rfl rfl rfl yf (fun b1 => ?_))
 refine zA ?_
 refine LO_nil (w1 ((yR (ov_load rfl rfl ye trivial rfl rfl tok31) ?_)))
 refine yM ?_
 refine yM ?_
 refine yP (yV rfl rfl rfl Tryz.call140 (by apply c_attack_By <;> exact yz)) ?_
 refine yR (ov_neq64 (b := 0#64) rfl rfl rfl) ?_
 refine yA_ ?_
 refine RO_nil (W_ret ⟨trivial, yc, (ResV_tmp1 rfl rfl ?_)⟩)
 rfl

theorem c_attack_king (p : Pos) (hp : POK p) (c : Int) (M : List Fact) (hT : TAB ∈ M) (h0 : 0 ≤ c) (h1 : c ≤ 1) : Pure Tryz.prog 70 [enc posT p, .int .u8 c] M (.tuple #[.int .i64 (if kingP p c < 0 then 0 else kingP p c), .bool (decide (0 ≤ kingP p c))]) := by
 obtain ⟨hb, hpw, hvr, htu, hpg, hvr0, htu0⟩ := hp.head
 have hkr := kingP_rng p c
 refine pure_of_W (n := 33) Tryz.func70 rfl rfl yn ?_
 refine w2 (fun w0 => ?_)
 refine LO_l rfl (by decide : 2 < 33) (ol_box (t := posT) rfl rfl rfl yf (fun b1 => ?_))
 refine zA ?_
 refine zA ?_
 refine LO_nil (W_seq (w1 ((yR (ov_fieldAddr rfl rfl fa31_0 rfl) ?_))))
 refine yR (ov_load rfl rfl ye ⟨trivial, yn⟩ rfl rfl tok5) ?_
 refine yM ?_
 refine yP (yV rfl rfl rfl Tryz.call73 (by apply c_rules_Royal <;> exact yz)) ?_
 refine yR (ov_not rfl rfl) ?_
 refine RO_nil (W_cond rfl (fun hc1 => ?_) (fun hc1 => ?_))
 ·
  refine w1 ((yA_ ?_))
  refine yA_ ?_
  refine RO_nil (W_ret ⟨trivial, yc, (ResV_tmp2q rfl rfl rfl ?_)⟩)
  exact xbay
 ·
  refine W_skip (w1 ((yR (ov_load rfl rfl ye trivial rfl rfl tok31) ?_)))
  refine yM ?_
  refine yP (yV rfl rfl rfl Tryz.call115 (by apply c_board_Find <;> exact yz)) ?_
  refine yA_ ?_
  refine RO_nil (W_seq (W_seq (W_regd mixed yk ?_)))
  refine yM ?_
  refine yR (ov_lss rfl rfl rfl) ?_
  refine yM ?_
  refine yG (fun hg => OpX.v (ov_fieldAddr rfl rfl fa31_0 rfl)) ?_
  refine yG (fun hg => OpX.v (ov_load rfl (look_gv rfl (bq hg)) ye ⟨trivial, yn⟩ rfl rfl tok5)) ?_
  refine yG (fun hg => OpX.v (ov_eql rfl (look_gv rfl (bq hg)) rfl)) ?_
  refine yG (fun hg => OpX.v (ov_move rfl (look_gv rfl (bq hg)))) ?_
  refine RO_g rfl rfl rfl rfl rfl yd (fun hg1 hg2 => OpX.v (ov_move rfl rfl)) ?_
  refine RO_g rfl rfl rfl rfl rfl yd (fun hg1 hg2 => yV rfl rfl (looks_cons (look_gv rfl (bq2 hg1 hg2)) looks_nil) Tryz.call139 (by apply c_rays_King <;> exact yz)) ?_
  refine RO_g rfl rfl rfl rfl rfl yd (fun hg1 hg2 => OpX.v (ov_load rfl rfl ye trivial rfl rfl tok31)) ?_
  refine RO_g rfl rfl rfl rfl rfl yd (fun hg1 hg2 => OpX.v (ov_move rfl rfl)) ?_
  refine RO_g rfl rfl rfl rfl rfl yd (fun hg1 hg2 => by have hgx := hg2; (try simp only [yS] at hgx); exact OpX.v (ov_sub rfl rfl (look_gv rfl (bq2 hg1 hg2)) ya)) ?_
  refine RO_g rfl rfl rfl rfl rfl yd (fun hg1 hg2 => yV rfl rfl (looks_cons (look_gv rfl (bq2 hg1 hg2)) (looks_cons (look_gv rfl (bq2 hg1 hg2)) (looks_cons rfl looks_nil))) Tryz.call117 xavy) ?_
  refine RO_g rfl rfl rfl rfl rfl yd (fun hg1 hg2 => OpX.v (ov_bits rfl (look_gv rfl (bq2 hg1 hg2)) (look_gv rfl (bq2 hg1 hg2)) (.inl ⟨rfl, rfl⟩))) ?_
  refine RO_g rfl rfl rfl rfl rfl yd (fun hg1 hg2 => OpX.v (ov_neq64 (b := 0#64) rfl (look_gv rfl (bq2 hg1 hg2)) rfl)) ?_
  refine yG (fun hg => OpX.v (ov_and rfl (look_gv rfl (bq hg)) rfl rfl (fun h => bq2 (bq hg) h))) ?_
  refine yR (ov_or rfl rfl rfl rfl (fun h => bq h)) ?_
  refine RO_nil (W_cond rfl (fun hc2 => ?_) (fun hc2 => ?_))
  ·
   refine w1 ((yA_ ?_))
   refine yA_ ?_
   refine RO_nil (W_ret ⟨trivial, yc, (ResV_tmp2q rfl rfl rfl ?_)⟩)
   exact xbay
  ·
   refine W_skip (w1 ((yM ?_)))
   refine yA_ ?_
   refine yA_ ?_
   refine RO_nil (W_ret ⟨trivial, yc, (ResV_tmp2q rfl rfl rfl ?_)⟩)
   exact xbay

theorem c_attack_Check (p : Pos) (hp : POK p) (c : Int) (M : List Fact) (hT : TAB ∈ M) (h0 : 0 ≤ c) (h1 : c ≤ 1) : Pure Tryz.prog 32 [enc posT p, .int .u8 c] M (.bool (checkP p c)) := by
 obtain ⟨hb, hpw, hvr, htu, hpg, hvr0, htu0⟩ := hp.head
 have hkr := kingP_rng p c
 refine pure_of_W (n := 21) Tryz.func32 rfl rfl yn ?_
 refine w2 (fun w0 => ?_)
 refine LO_l rfl (by decide : 2 < 21) (ol_box (t := posT) rfl rfl rfl yf (fun b1 => ?_))
 refine zA ?_
 refine LO_nil (w1 ((yR (ov_load rfl rfl ye trivial rfl rfl tok31) ?_)))
 refine yM ?_
 refine yP (yV rfl rfl rfl Tryz.call70 (by apply c_attack_king <;> exact yz)) ?_
 refine yM ?_
 refine yR (ov_extract rfl rfl rfl) ?_
 refine yR (ov_extract rfl rfl rfl) ?_
 refine yA_ ?_
 refine yA_ ?_
 refine RO_nil (w1 ((yM ?_)))
 refine yM ?_
 refine yG (fun hg => OpX.v (ov_load rfl rfl ye trivial rfl rfl tok31)) ?_
 refine gM ?_
 refine gM ?_
 refine yG (fun hg => OpX.v (ov_sub rfl rfl (look_gv rfl (bq hg)) ya)) ?_
 refine RO_g1 rfl rfl rfl rfl rfl yd (fun hg => by have hgx := hg; (try simp only [yS] at hgx); exact yV rfl rfl (looks_cons (look_gv rfl (bq hg)) (looks_cons (look_gv rfl (bq hg)) (looks_cons (look_gv rfl (bq hg)) looks_nil))) Tryz.call71 (by apply c_attack_On <;> exact yz)) ?_
 refine yR (ov_and rfl rfl rfl rfl (fun h => bq h)) ?_
 refine yA_ ?_
 refine RO_nil (W_ret ⟨trivial, yc, (ResV_tmp1 rfl rfl ?_)⟩)
 rfl
end Go.Kw
set_option linter.unusedVariables false
namespace Go.Kw
open Go.Proofs
theorem tok164 : TyOK Tryz.prog 164 (.ar 2 (.ar 2 i64)) := ⟨Tryz.isAgg164, Tryz.sizeOf164, Tryz.zeroValue164⟩
theorem bl92 : BuildOKa Tryz.prog 92 2 i64 := ⟨_, _, _, rfl, rfl, Tryz.underlying92, rfl, rfl⟩
theorem bl164 : BuildOKa Tryz.prog 164 2 (.ar 2 i64) := ⟨_, _, _, rfl, rfl, Tryz.underlying164, rfl, rfl⟩

def goalsT : List (List Int) := [[6, 5], [2, 3]]
def rngL (a b : Int) : List Int := (List.range (max a b - min a b + 1).toNat).map fun i : Nat => min a b + (i : Int)
theorem rng_get {a b : Int} {j : Nat} (h : j < (max a b - min a b + 1).toNat) : (rngL a b)[j]? = some (min a b + (j : Int)) := by
  unfold rngL; simp [h]
theorem rng_len (a b : Int) : (rngL a b).length = (max a b - min a b + 1).toNat := by unfold rngL; simp
theorem rng_rng {a b x : Int} {j : Nat} (h0 : 0 ≤ a) (h1 : a < 64) (h2 : 0 ≤ b) (h3 : b < 64) (h : (rngL a b)[j]? = some x) : 0 ≤ x ∧ x < 64 := by
  have hj : j < (rngL a b).length := (List.getElem?_eq_some_iff.1 h).1
  rw [rng_len] at hj
  rw [rng_get hj] at h
  cases h
  omega
theorem all_step {f : Int → Bool} {l : List Int} {k : Nat} {x : Int} (h : ∀ i x, i < k → l[i]? = some x → f x = true) (hx : l[k]? = some x) (hf : f x = true) : ∀ i x, i < k + 1 → l[i]? = some x → f x = true := fun i y hi hy => by
  rcases Nat.lt_or_ge i k with h' | h'
  · exact h i y h' hy
  · have : i = k := by omega
    subst this
    rw [hx] at hy; cases hy; exact hf
theorem all_yes {f : Int → Bool} {a b : Int} (h : ∀ i x, i < (max a b - min a b + 1).toNat → (rngL a b)[i]? = some x → f x = true) : (rngL a b).all f = true := by
  rw [List.all_eq_true]
  intro x hx
  obtain ⟨i, hi, he⟩ := List.mem_iff_getElem.1 hx
  exact h i x (by rw [← rng_len]; exact hi) (by rw [List.getElem?_eq_getElem hi, he])
theorem all_no {f : Int → Bool} {l : List Int} {k : Nat} {x : Int} (hx : l[k]? = some x) (hf : f x = false) : l.all f = false := by
  rw [← Bool.not_eq_true, List.all_eq_true]
  intro h
  rw [h x (List.mem_of_getElem? hx)] at hf; cases hf

theorem c_castle_home (c : Int) (M : List Fact) (h0 : 0 ≤ c) (h1 : c ≤ 255) : Pure Tryz.prog 159 [.int .u8 c] M (.int .i64 (56 * c)) := by
 refine pure_of_W (n := 6) Tryz.func159 rfl rfl yn ?_
 refine w1 ((yA_ ?_))
 refine RO_nil (w1 ((yM ?_)))
 refine yR (ov_convn rfl rfl Tryz.underlying5 Tryz.underlying3 ya) ?_
 refine yR (ov_mul rfl rfl rfl ya) ?_
 refine yA_ ?_
 refine RO_nil (W_ret ⟨trivial, yc, (ResV_tmp1 rfl rfl ?_)⟩)
 rfl

theorem c_castle_goals (M : List Fact) : Pure Tryz.prog 165 [] M (enc (.ar 2 (.ar 2 i64)) goalsT) := by
 refine pure_of_W (n := 4) Tryz.func165 rfl rfl yn ?_
 refine w2 (fun w0 => ?_)
 refine LO_l rfl (by decide : 0 < 4) (ol_alloc (t := (.ar 2 (.ar 2 i64))) rfl tok164 yf (fun b1 => ?_))
 refine LO_nil (w2 (fun w0 => ?_))
 refine yL (ov_buildA (t := i64) (ds := [(0, _), (1, _)]) rfl rfl bl92 ⟨yn, yf, ⟨yn, yf, trivial⟩⟩ rfl) ?_
 refine yL (ov_buildA (t := i64) (ds := [(0, _), (1, _)]) rfl rfl bl92 ⟨yn, yf, ⟨yn, yf, trivial⟩⟩ rfl) ?_
 refine yL (ov_buildA (t := (.ar 2 i64)) (ds := [(0, _), (1, _)]) rfl rfl bl164 ⟨yn, yf, ⟨yn, yf, trivial⟩⟩ rfl) ?_
 refine LO_l rfl trivial (ol_sw0 rfl rfl rfl rfl yf tok164 ?_)
 refine LO_nil (W_ret ⟨trivial, yc, (ResV_cell rfl rfl ye rfl tok164 ?_)⟩)
 rfl

theorem c_castle_from (a b : Int) (M : List Fact) : Con Tryz.prog 216 [.int .i64 a, .int .i64 b] M (fun v M' => ∃ b1 b2, v = .func (.func 225) #[] #[ptrv b1 i64 [], ptrv b2 i64 []] ∧ M' = .box b2 3 i64 b :: .box b1 3 i64 a :: M) := by
 refine con_of_W (n := 6) Tryz.func216 rfl rfl yn ?_
 refine w2 (fun w0 => ?_)
 refine LO_l rfl (by decide : 2 < 6) (ol_box (t := i64) rfl rfl rfl yf (fun b1 => ?_))
 refine LO_l rfl (by decide : 3 < 6) (ol_box (t := i64) rfl rfl rfl yf (fun b2 => ?_))
 refine zA ?_
 refine LO_nil (w1 ((yR (ov_makeFunc rfl rfl rfl) ?_)))
 refine yA_ ?_
 refine RO_nil (W_ret ⟨trivial, _, _, (ResV_tmp1 rfl rfl rfl), yc, ?_⟩)
 exact ⟨b1, b2, rfl, rfl⟩

theorem c_castle_from_1 (a b : Int) (b1 b2 t1 t2 : Nat) (h0 : 0 ≤ a) (h1 : a < 64) (h2 : 0 ≤ b) (h3 : b < 64) : Seq Tryz.prog 225 [ptrv b1 i64 [], ptrv b2 i64 []] [.box b2 t2 i64 b, .box b1 t1 i64 a] (max a b - min a b + 1).toNat (PreL (fun x : Int => [.int .i64 x]) (rngL a b)) := by
 intro cb Mc Mx hy M hM
 refine con_of_G (n := 19) Tryz.func225 rfl rfl yn ?_
 show G Tryz.prog none 19 _ _ _ _ (.box b2 t2 i64 b :: .box b1 t1 i64 a :: M)
 refine G_seq (G_regl (fun w0 => ?_))
 refine GO_op rfl rfl yd (OpX.v (ov_load rfl rfl ye trivial rfl rfl tok3)) ?_
 refine GO_op rfl rfl yd (OpX.v (ov_load rfl rfl ye trivial rfl rfl tok3)) ?_
 refine GO_op rfl rfl yd (OpX.v (ov_min2 rfl rfl rfl)) ?_
 refine GO_op rfl rfl yd (OpX.v (ov_assign rfl rfl)) ?_
 refine GO_nil (G_block (G_loop (σ := Nat × List Fact) (fun s => s.1 ≤ (max a b - min a b + 1).toNat ∧ Mc s.1 s.2) (fun s => [(0, cb), (1, ptrv b1 i64 []), (2, ptrv b2 i64 []), (4, .int .i64 (min a b + (s.1 : Int)))]) (fun s => .box b2 t2 i64 b :: .box b1 t1 i64 a :: s.2) (fun s => (max a b - min a b + 1).toNat - s.1) ((0, M)) ⟨by simp, hM⟩ ⟨rfl, rfl, rfl, congrArg some (val_int (by simp)), trivial⟩ yc ?_))
 rintro ⟨j, Mq⟩ ⟨hj, hq⟩
 simp only at hj hq
 refine G_seq (G_seq (G_regl (fun w0 => ?_)))
 refine GO_op rfl rfl yd (OpX.v (ov_move rfl rfl)) ?_
 refine GO_op rfl rfl yd (OpX.v (ov_load rfl rfl ye trivial rfl rfl tok3)) ?_
 refine GO_op rfl rfl yd (OpX.v (ov_load rfl rfl ye trivial rfl rfl tok3)) ?_
 refine GO_op rfl rfl yd (OpX.v (ov_max2 rfl rfl rfl)) ?_
 refine GO_op rfl rfl yd (OpX.v (ov_leq rfl rfl rfl)) ?_
 refine GO_nil (G_cond rfl (fun hc1 => ?_) (fun hc1 => ?_))
 ·
  try simp only [yS] at hc1
  have hjn : j < (max a b - min a b + 1).toNat := by omega
  refine G_skip ?_
  refine G_seq (G_block (G_seq (G_regl (fun w0 => ?_))))
  refine GO_op rfl rfl yd (OpX.v (ov_move rfl rfl)) ?_
  refine GO_op rfl rfl yd (OpX.v (ov_move rfl rfl)) ?_
  refine GO_callv rfl (by decide : 17 < 19) rfl rfl rfl (CallV.mono (CallV.frame (A := [_, _]) (hy j _ [] _ hjn ⟨_, rng_get hjn, rfl, rfl⟩ hq)) ?_)
  rintro v M' ⟨M1, rfl, Mz, e1, (⟨rfl, hq1⟩ | ⟨rfl, hq1⟩)⟩
  ·
   obtain rfl : M1 = Mz := e1
   show GO Tryz.prog none 19 [] _ _ _ _ _ _ (.box b2 t2 i64 b :: .box b1 t1 i64 a :: M1)
   refine GO_op rfl rfl yd (OpX.v (ov_not rfl rfl)) ?_
   refine GO_nil (G_condf rfl ?_)
   refine G_skip ?_
   refine G_regl (fun w0 => ?_)
   refine GO_op rfl rfl yd (OpX.v (ov_move rfl rfl)) ?_
   refine GO_op rfl rfl yd (OpX.v (ov_add rfl rfl rfl ya)) ?_
   refine GO_op rfl rfl yd (OpX.v (ov_assign rfl rfl)) ?_
   refine GO_nil ?_
   exact ⟨rfl, (j + 1, M1), xaly, ⟨by simp only; omega, hq1⟩, ⟨rfl, rfl, rfl, congrArg some (val_int yo), trivial⟩, yc⟩
  ·
   obtain rfl : M1 = Mz := e1
   show GO Tryz.prog none 19 [] _ _ _ _ _ _ (.box b2 t2 i64 b :: .box b1 t1 i64 a :: M1)
   refine GO_op rfl rfl yd (OpX.v (ov_not rfl rfl)) ?_
   refine GO_nil (G_condt rfl ?_)
   refine G_ret ?_
   refine ⟨trivial, .inl ⟨rfl, _, _, (ResV_none rfl), yc, ?_⟩⟩
   first | exact .inl ⟨Mq, ((List.Sublist.refl _).cons _).cons _, by rw [show (max a b - min a b + 1).toNat = j by omega]; exact hq⟩ | exact .inr ⟨j, M1, by omega, ((List.Sublist.refl _).cons _).cons _, hq1⟩
 ·
  try simp only [yS] at hc1
  refine G_exit ?_
  refine ⟨trivial, .inl ⟨rfl, _, _, (ResV_none rfl), yc, ?_⟩⟩
  first | exact .inl ⟨Mq, ((List.Sublist.refl _).cons _).cons _, by rw [show (max a b - min a b + 1).toNat = j by omega]; exact hq⟩ | exact .inr ⟨j, M1, by omega, ((List.Sublist.refl _).cons _).cons _, hq1⟩

theorem c_castle_all (a b : Int) (cf : FuncId) (cv : List Value) (f : Int → Bool) (M : List Fact) (hcf : ∀ av w, (callFunc cf av).run Tryz.prog w = .ok (.enter cf av) w) (hh : ∀ s, 0 ≤ s → s < 64 → Pure Tryz.prog cf (.int .i64 s :: cv) M (.bool (f s))) (h0 : 0 ≤ a) (h1 : a < 64) (h2 : 0 ≤ b) (h3 : b < 64) : Pure Tryz.prog 199 [.int .i64 a, .int .i64 b, (.func (.func cf) #[] cv.toArray)] M (.bool ((rngL a b).all f)) := by
 refine pure_of_G (n := 16) Tryz.func199 rfl rfl yn ?_
 refine G_seq (G_regl (fun w0 => ?_))
 refine GO_l rfl (by decide : 5 < 16) (ol_box1 rfl rfl rfl (fun b1 => ?_))
 refine GO_l rfl (by decide : 6 < 16) (ol_alloc (t := .bool) rfl tok4 yf (fun b2 => ?_))
 refine GO_nil (G_seq (G_seq (G_regl (fun w0 => ?_))))
 refine GO_op rfl rfl yd (OpX.v (ov_move rfl rfl)) ?_
 refine GO_op rfl rfl yd (OpX.v (ov_move rfl rfl)) ?_
 refine GO_l rfl (by decide : 10 < 16) (ol_call (v0 := []) (v2 := []) rfl rfl rfl Tryz.call216 (Con.mono (by apply c_castle_from <;> exact yz) (fun v M' h => ?_)))
 obtain ⟨fb1, fb2, rfl, rfl⟩ := h
 refine GO_nil (G_block (G_range rfl Tryz.call225 (c_castle_from_1 a b fb1 fb2 3 3 h0 h1 h2 h3) (by rintro k vals F ⟨x, _, rfl, _⟩; rfl) yd (fun k M' => M' = .box b2 4 .bool false :: .one b1 118 (.func (.func cf) #[] cv.toArray) :: M ∧ ∀ i x, i < k → (rngL a b)[i]? = some x → f x = true) (fun k M' => M' = .box b2 4 .bool false :: .one b1 118 (.func (.func cf) #[] cv.toArray) :: M ∧ ∃ x, (rngL a b)[k]? = some x ∧ f x = false) (A := [.box fb2 3 i64 b, .box fb1 3 i64 a]) (M0 := .box b2 4 .bool false :: .one b1 118 (.func (.func cf) #[] cv.toArray) :: M) (List.Perm.refl _) (⟨rfl, fun i x hi _ => absurd hi yo⟩) ?_ ?_ ?_))
 ·
  rintro l k vals F M1 hk ⟨x, hx, rfl, rfl⟩ ⟨rfl, hall⟩
  have hxr := rng_rng h0 h1 h2 h3 hx
  show G _ _ _ _ _ _ _ (.box b2 4 .bool false :: .one b1 118 (.func (.func cf) #[] cv.toArray) :: M)
  refine G_regl (fun w0 => ?_)
  refine GO_op rfl rfl yd (OpX.v (ov_assign rfl rfl)) ?_
  refine GO_nil ⟨rfl, ?_⟩
  refine G_block (G_seq (G_regl (fun w0 => ?_)))
  refine GO_op rfl rfl yd (OpX.v (ov_load1 rfl rfl ye Tryz.isAgg118)) ?_
  refine GO_op rfl rfl yd (OpX.v (ov_move rfl rfl)) ?_
  refine GO_op rfl rfl yd (ov_call  rfl rfl rfl hcf (Pure.frame (A := [_, _]) (hh x hxr.1 hxr.2))) ?_
  refine GO_op rfl rfl yd (OpX.v (ov_not rfl rfl)) ?_
  refine GO_nil (G_cond rfl (fun hc1 => ?_) (fun hc1 => ?_))
  ·
   try simp only [yS] at hc1
   refine G_seq (G_regl (fun w0 => ?_))
   refine GO_l rfl trivial (ol_sw0 rfl rfl rfl rfl yf tok4 ?_)
   refine GO_nil (G_ret ?_)
   exact ⟨_, List.Perm.refl _, _, yc, _, rfl, rfl, _, hx, by simpa using hc1⟩
  ·
   try simp only [yS] at hc1
   refine G_skip ?_
   exact ⟨_, List.Perm.refl _, _, yc, _, rfl, rfl, all_step hall hx (by simpa using hc1)⟩
 ·
  rintro D M1 ⟨rfl, hall⟩
  refine G_seq (G_regl (fun w0 => ?_))
  refine GO_l rfl trivial (ol_sw1 rfl rfl rfl rfl yf tok4 ?_)
  refine GO_nil (G_ret ?_)
  refine ⟨trivial, .inr ⟨_, _, rfl, rfl, _, M, (ResV_cell rfl rfl ye rfl tok4 ?_), yc, rfl, rfl⟩⟩
  first | exact val_bool (all_yes hall).symm | exact val_bool (all_no hx hfx).symm
 ·
  rintro D k M1 hk ⟨rfl, x, hx, hfx⟩
  refine ⟨trivial, .inr ⟨_, _, rfl, rfl, _, M, (ResV_cell rfl rfl ye rfl tok4 ?_), yc, rfl, rfl⟩⟩
  first | exact val_bool (all_yes hall).symm | exact val_bool (all_no hx hfx).symm
end Go.Kw
