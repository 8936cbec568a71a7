/- A part of the proof: KwTy, KwMem, KwWp, KwOps, KwOps2, KwOps3, KwDraw, KwDraw2, KwBuild. -/
import Derived.WalkKit
import Derived.Deep.Quiet
set_option linter.all false
set_option linter.unusedVariables false
set_option linter.unusedSimpArgs false
set_option linter.unusedSectionVars false
set_option maxRecDepth 20000
namespace Go.Kw

inductive Ty where
  | int (k : IntKind) | bool | str | fn | st (fs : List Ty) | ar (n : Nat) (t : Ty)

abbrev IntEl : IntKind → Type
  | .u64 => BitVec 64
  | .i8 => Int | .i16 => Int | .i32 => Int | .i64 => Int | .u8 => Int | .u16 => Int | .u32 => Int

/-- A function value: none is nil. -/
abbrev FnV := Option (FuncId × List Value × List Value)
def encFn : FnV → Value
  | none => .nilFunc
  | some (f, a, b) => .func (.func f) a.toArray b.toArray

mutual
abbrev El : Ty → Type
  | .int k => IntEl k
  | .bool => Bool
  | .str => ByteArray
  | .fn => FnV
  | .st fs => Els fs
  | .ar _ t => List (El t)
abbrev Els : List Ty → Type
  | [] => Unit
  | t :: fs => El t × Els fs
end

mutual
def Ty.size : Ty → Nat
  | .int _ => 1
  | .bool => 1
  | .str => 1
  | .fn => 1
  | .st fs => sizes fs
  | .ar n t => n * t.size
def sizes : List Ty → Nat
  | [] => 0
  | t :: fs => t.size + sizes fs
end

def encInt : (k : IntKind) → IntEl k → Int
  | .u64, (b : BitVec 64) => (b.toNat : Int)
  | .i8, n => n | .i16, n => n | .i32, n => n | .i64, n => n | .u8, n => n | .u16, n => n | .u32, n => n

mutual
def cells : (t : Ty) → El t → List Value
  | .int k, n => [.int k (encInt k n)]
  | .bool, b => [.bool b]
  | .str, s => [.string s]
  | .fn, f => [encFn f]
  | .st fs, x => cellss fs x
  | .ar _ t, xs => List.flatMap (cells t) xs
def cellss : (fs : List Ty) → Els fs → List Value
  | [], _ => []
  | t :: fs, x => cells t x.1 ++ cellss fs x.2
end

mutual
def wf : (t : Ty) → El t → Prop
  | .int _, _ => True
  | .bool, _ => True
  | .str, _ => True
  | .fn, _ => True
  | .st fs, x => wfs fs x
  | .ar n t, xs => (show List (El t) from xs).length = n ∧ ∀ x ∈ (show List (El t) from xs), wf t x
def wfs : (fs : List Ty) → Els fs → Prop
  | [], _ => True
  | t :: fs, x => wf t x.1 ∧ wfs fs x.2
end

def Ty.isAgg : Ty → Bool
  | .st _ => true
  | .ar _ _ => true
  | _ => false

def enc : (t : Ty) → El t → Value
  | .int k, n => .int k (encInt k n)
  | .bool, b => .bool b
  | .str, s => .string s
  | .fn, f => encFn f
  | .st fs, x => .agg (cellss fs x).toArray
  | .ar n t, xs => .agg (cells (.ar n t) xs).toArray

abbrev u8 : Ty := .int .u8
abbrev i8 : Ty := .int .i8
abbrev i64 : Ty := .int .i64
abbrev u64 : Ty := .int .u64



mutual
theorem cells_length : (t : Ty) → (x : El t) → wf t x → (cells t x).length = t.size
  | .int _, _, _ => rfl
  | .bool, _, _ => rfl
  | .str, _, _ => rfl
  | .fn, _, _ => rfl
  | .st fs, x, h => cellss_length fs x h
  | .ar n t, xs, h => by
    obtain ⟨hl, hw⟩ := h
    have : ∀ (l : List (El t)), (∀ x ∈ l, wf t x) → (List.flatMap (cells t) l).length = l.length * t.size := by
      intro l
      induction l with
      | nil => intro _; simp
      | cons y l ih =>
        intro hy
        simp only [List.flatMap_cons, List.length_append, List.length_cons]
        rw [cells_length t y (hy y (by simp)), ih (fun z hz => hy z (by simp [hz])), Nat.add_mul, Nat.one_mul, Nat.add_comm]
    show (List.flatMap (cells t) xs).length = n * t.size
    rw [this xs hw, hl]
theorem cellss_length : (fs : List Ty) → (x : Els fs) → wfs fs x → (cellss fs x).length = sizes fs
  | [], _, _ => rfl
  | t :: fs, x, h => by
    show (cells t x.1 ++ cellss fs x.2).length = t.size + sizes fs
    rw [List.length_append, cells_length t x.1 h.1, cellss_length fs x.2 h.2]
end

mutual
def zero : (t : Ty) → El t
  | .int .u64 => (0 : BitVec 64)
  | .int .i8 => (0 : Int) | .int .i16 => (0 : Int) | .int .i32 => (0 : Int) | .int .i64 => (0 : Int)
  | .int .u8 => (0 : Int) | .int .u16 => (0 : Int) | .int .u32 => (0 : Int)
  | .bool => false
  | .str => .empty
  | .fn => none
  | .st fs => zeros fs
  | .ar n t => List.replicate n (zero t)
def zeros : (fs : List Ty) → Els fs
  | [] => ()
  | t :: fs => (zero t, zeros fs)
end

inductive PS where
  | fld (j : Nat) | idx (i : Nat)

def fget : List Ty → Nat → Ty
  | [], _ => .bool
  | t :: _, 0 => t
  | _ :: fs, j + 1 => fget fs j
def foff : List Ty → Nat → Nat
  | [], _ => 0
  | _ :: _, 0 => 0
  | t :: fs, j + 1 => t.size + foff fs j
def fproj : (fs : List Ty) → Els fs → (j : Nat) → El (fget fs j)
  | [], _, _ => false
  | _ :: _, x, 0 => x.1
  | _ :: fs, x, j + 1 => fproj fs x.2 j
def fset : (fs : List Ty) → Els fs → (j : Nat) → El (fget fs j) → Els fs
  | [], x, _, _ => x
  | _ :: _, x, 0, v => (v, x.2)
  | _ :: fs, x, j + 1, v => (x.1, fset fs x.2 j v)

def tyStep : Ty → PS → Ty
  | .st fs, .fld j => fget fs j
  | .ar _ t, .idx _ => t
  | t, _ => t
def okStep : Ty → PS → Prop
  | .st fs, .fld j => j < fs.length
  | .ar n _, .idx i => i < n
  | _, _ => False
def offStep : Ty → PS → Nat
  | .st fs, .fld j => foff fs j
  | .ar _ t, .idx i => i * t.size
  | _, _ => 0
def getStep : (t : Ty) → El t → (s : PS) → El (tyStep t s)
  | .st fs, x, .fld j => fproj fs x j
  | .ar _ t, xs, .idx i => List.getD xs i (zero t)
  | .int _, x, .fld _ => x | .int _, x, .idx _ => x
  | .bool, x, .fld _ => x | .bool, x, .idx _ => x
  | .str, x, .fld _ => x | .str, x, .idx _ => x
  | .fn, x, .fld _ => x | .fn, x, .idx _ => x
  | .st _, x, .idx _ => x
  | .ar _ _, x, .fld _ => x
def setStep : (t : Ty) → El t → (s : PS) → El (tyStep t s) → El t
  | .st fs, x, .fld j, v => fset fs x j v
  | .ar _ _, xs, .idx i, v => List.set xs i v
  | .int _, x, .fld _, _ => x | .int _, x, .idx _, _ => x
  | .bool, x, .fld _, _ => x | .bool, x, .idx _, _ => x
  | .str, x, .fld _, _ => x | .str, x, .idx _, _ => x
  | .fn, x, .fld _, _ => x | .fn, x, .idx _, _ => x
  | .st _, x, .idx _, _ => x
  | .ar _ _, x, .fld _, _ => x

/-- Paths, the last step first. -/
def TyAt (t : Ty) : List PS → Ty
  | [] => t
  | s :: p => tyStep (TyAt t p) s
def okp (t : Ty) : List PS → Prop
  | [] => True
  | s :: p => okp t p ∧ okStep (TyAt t p) s
def offp (t : Ty) : List PS → Nat
  | [] => 0
  | s :: p => offp t p + offStep (TyAt t p) s
def getp (t : Ty) (x : El t) : (p : List PS) → El (TyAt t p)
  | [] => x
  | s :: p => getStep (TyAt t p) (getp t x p) s
def setp (t : Ty) (x : El t) : (p : List PS) → El (TyAt t p) → El t
  | [], v => v
  | s :: p, v => setp t x p (setStep (TyAt t p) (getp t x p) s v)

theorem drop_add_append {α : Type} (a b : List α) (n : Nat) : (a ++ b).drop (a.length + n) = b.drop n := by
  simp [List.drop_append, List.drop_eq_nil_of_le]
theorem take_add_append {α : Type} (a b : List α) (n : Nat) : (a ++ b).take (a.length + n) = a ++ b.take n := by
  simp [List.take_append, List.take_of_length_le]

theorem cellss_field : (fs : List Ty) → (x : Els fs) → wfs fs x → (j : Nat) → j < fs.length →
    wf (fget fs j) (fproj fs x j) ∧ foff fs j + (fget fs j).size ≤ sizes fs ∧
    ((cellss fs x).drop (foff fs j)).take (fget fs j).size = cells (fget fs j) (fproj fs x j) ∧
    ∀ v, wf (fget fs j) v → wfs fs (fset fs x j v) ∧ cellss fs (fset fs x j v) = (cellss fs x).take (foff fs j) ++ cells (fget fs j) v ++ (cellss fs x).drop (foff fs j + (fget fs j).size)
  | [], _, _, _, h => by simp at h
  | t :: fs, x, h, 0, _ => by
    have hl := cells_length t x.1 h.1
    refine ⟨h.1, ?_, ?_, fun v hv => ⟨⟨hv, h.2⟩, ?_⟩⟩
    · show 0 + t.size ≤ t.size + sizes fs
      omega
    · show ((cells t x.1 ++ cellss fs x.2).drop 0).take t.size = cells t x.1
      rw [List.drop_zero, ← hl, List.take_left']
      rfl
    · show cells t v ++ cellss fs x.2 = (cells t x.1 ++ cellss fs x.2).take 0 ++ cells t v ++ (cells t x.1 ++ cellss fs x.2).drop (0 + t.size)
      rw [Nat.zero_add, ← hl, List.drop_left']
      · simp
      · rfl
  | t :: fs, x, h, j + 1, hj => by
    have hl := cells_length t x.1 h.1
    obtain ⟨h1, h2, h3, h4⟩ := cellss_field fs x.2 h.2 j (by simpa using hj)
    refine ⟨h1, ?_, ?_, fun v hv => ⟨⟨h.1, (h4 v hv).1⟩, ?_⟩⟩
    · show t.size + foff fs j + (fget fs j).size ≤ t.size + sizes fs
      omega
    · show ((cells t x.1 ++ cellss fs x.2).drop (t.size + foff fs j)).take (fget fs j).size = _
      rw [← hl, drop_add_append]
      exact h3
    · show cells t x.1 ++ cellss fs (fset fs x.2 j v) = (cells t x.1 ++ cellss fs x.2).take (t.size + foff fs j) ++ cells (fget fs j) v ++ (cells t x.1 ++ cellss fs x.2).drop (t.size + foff fs j + (fget fs j).size)
      rw [(h4 v hv).2, ← hl, take_add_append, Nat.add_assoc, drop_add_append]
      simp [List.append_assoc]
theorem flat_length {t : Ty} : ∀ (l : List (El t)), (∀ x ∈ l, wf t x) → (l.flatMap (cells t)).length = l.length * t.size := by
  intro l
  induction l with
  | nil => intro _; simp
  | cons y l ih =>
    intro hy
    simp only [List.flatMap_cons, List.length_append, List.length_cons]
    rw [cells_length t y (hy y (by simp)), ih (fun z hz => hy z (by simp [hz])), Nat.add_mul, Nat.one_mul, Nat.add_comm]

theorem flat_elem {t : Ty} (d : El t) : ∀ (l : List (El t)), (∀ x ∈ l, wf t x) → ∀ i, i < l.length →
    wf t (l.getD i d) ∧ i * t.size + t.size ≤ l.length * t.size ∧
    ((l.flatMap (cells t)).drop (i * t.size)).take t.size = cells t (l.getD i d) ∧
    ∀ v, wf t v → (∀ x ∈ l.set i v, wf t x) ∧ (l.set i v).flatMap (cells t) = (l.flatMap (cells t)).take (i * t.size) ++ cells t v ++ (l.flatMap (cells t)).drop (i * t.size + t.size) := by
  intro l
  induction l with
  | nil => intro _ i hi; simp at hi
  | cons y l ih =>
    intro hy i hi
    have hl := cells_length t y (hy y (by simp))
    cases i with
    | zero =>
      refine ⟨hy y (by simp), ?_, ?_, fun v hv => ⟨?_, ?_⟩⟩
      · simp only [List.length_cons, Nat.add_mul]; omega
      · simp only [List.flatMap_cons, Nat.zero_mul, List.drop_zero, List.getD_cons_zero]
        rw [← hl, List.take_left']
        rfl
      · intro x hx
        simp only [List.set_cons_zero, List.mem_cons] at hx
        rcases hx with rfl | hx
        · exact hv
        · exact hy x (by simp [hx])
      · simp only [List.set_cons_zero, List.flatMap_cons, Nat.zero_mul, List.take_zero, List.nil_append, Nat.zero_add]
        rw [← hl, List.drop_left']
        rfl
    | succ i =>
      obtain ⟨h1, h2, h3, h4⟩ := ih (fun z hz => hy z (by simp [hz])) i (by simpa using hi)
      have e : (i + 1) * t.size = (cells t y).length + i * t.size := by rw [hl, Nat.add_mul, Nat.one_mul, Nat.add_comm]
      refine ⟨by simpa using h1, ?_, ?_, fun v hv => ⟨?_, ?_⟩⟩
      · simp only [List.length_cons, Nat.add_mul] at *; omega
      · simp only [List.flatMap_cons, List.getD_cons_succ, e]
        rw [drop_add_append]
        exact h3
      · intro x hx
        simp only [List.set_cons_succ, List.mem_cons] at hx
        rcases hx with rfl | hx
        · exact hy _ (by simp)
        · exact (h4 v hv).1 x hx
      · simp only [List.set_cons_succ, List.flatMap_cons, e, (h4 v hv).2]
        rw [take_add_append, Nat.add_assoc, drop_add_append]
        simp [List.append_assoc]

theorem ar_spec (n : Nat) (t : Ty) (xs : List (El t)) (hl : xs.length = n) (hw : ∀ x ∈ xs, wf t x) (i : Nat) (ok : i < n) :
    wf t (xs.getD i (zero t)) ∧ i * t.size + t.size ≤ n * t.size ∧
    ((xs.flatMap (cells t)).drop (i * t.size)).take t.size = cells t (xs.getD i (zero t)) ∧
    ∀ v, wf t v → ((xs.set i v).length = n ∧ ∀ x ∈ xs.set i v, wf t x) ∧ (xs.set i v).flatMap (cells t) = (xs.flatMap (cells t)).take (i * t.size) ++ cells t v ++ (xs.flatMap (cells t)).drop (i * t.size + t.size) := by
  obtain ⟨h1, h2, h3, h4⟩ := flat_elem (zero t) xs hw i (hl ▸ ok)
  refine ⟨h1, ?_, h3, fun v hv => ⟨⟨?_, (h4 v hv).1⟩, (h4 v hv).2⟩⟩
  · rw [← hl]; exact h2
  · rw [List.length_set]; exact hl

theorem step_spec (t : Ty) (x : El t) (h : wf t x) (s : PS) (ok : okStep t s) :
    wf (tyStep t s) (getStep t x s) ∧ offStep t s + (tyStep t s).size ≤ t.size ∧
    ((cells t x).drop (offStep t s)).take (tyStep t s).size = cells (tyStep t s) (getStep t x s) ∧
    ∀ v, wf (tyStep t s) v → wf t (setStep t x s v) ∧ cells t (setStep t x s v) = (cells t x).take (offStep t s) ++ cells (tyStep t s) v ++ (cells t x).drop (offStep t s + (tyStep t s).size) := by
  cases t with
  | st fs =>
    cases s with
    | fld j => exact cellss_field fs x h j ok
    | idx i => exact ok.elim
  | ar n t =>
    cases s with
    | fld j => exact ok.elim
    | idx i =>
      exact ar_spec n t x h.1 h.2 i ok
  | int k => cases s <;> exact ok.elim
  | bool => cases s <;> exact ok.elim
  | str => cases s <;> exact ok.elim
  | fn => cases s <;> exact ok.elim

theorem path_spec (t : Ty) (x : El t) (h : wf t x) : ∀ (p : List PS), okp t p →
    wf (TyAt t p) (getp t x p) ∧ offp t p + (TyAt t p).size ≤ t.size ∧
    ((cells t x).drop (offp t p)).take (TyAt t p).size = cells (TyAt t p) (getp t x p) ∧
    ∀ v, wf (TyAt t p) v → wf t (setp t x p v) ∧ cells t (setp t x p v) = (cells t x).take (offp t p) ++ cells (TyAt t p) v ++ (cells t x).drop (offp t p + (TyAt t p).size)
  | [], _ => by
    have hl := cells_length t x h
    refine ⟨h, ?_, ?_, fun v hv => ⟨hv, ?_⟩⟩
    · show 0 + t.size ≤ t.size; omega
    · show ((cells t x).drop 0).take t.size = cells t x
      rw [List.drop_zero, List.take_of_length_le (by omega)]
    · show cells t v = (cells t x).take 0 ++ cells t v ++ (cells t x).drop (0 + t.size)
      rw [List.drop_eq_nil_of_le (by omega)]; simp
  | s :: p, ok => by
    obtain ⟨h1, h2, h3, h4⟩ := path_spec t x h p ok.1
    obtain ⟨g1, g2, g3, g4⟩ := step_spec (TyAt t p) (getp t x p) h1 s ok.2
    have hl := cells_length t x h
    refine ⟨g1, ?_, ?_, fun v hv => ?_⟩
    · show offp t p + offStep (TyAt t p) s + (tyStep (TyAt t p) s).size ≤ t.size
      omega
    · show ((cells t x).drop (offp t p + offStep (TyAt t p) s)).take (tyStep (TyAt t p) s).size = cells (tyStep (TyAt t p) s) (getStep (TyAt t p) (getp t x p) s)
      rw [← g3, ← h3, ← List.drop_drop, List.drop_take, List.take_take]
      congr 1
      omega
    · obtain ⟨k1, k2⟩ := g4 v hv
      obtain ⟨m1, m2⟩ := h4 _ k1
      refine ⟨m1, ?_⟩
      show cells t (setp t x p (setStep (TyAt t p) (getp t x p) s v)) = (cells t x).take (offp t p + offStep (TyAt t p) s) ++ cells (tyStep (TyAt t p) s) v ++ (cells t x).drop (offp t p + offStep (TyAt t p) s + (tyStep (TyAt t p) s).size)
      rw [m2, k2, ← h3]
      have e1 : (cells t x).take (offp t p + offStep (TyAt t p) s) = (cells t x).take (offp t p) ++ (((cells t x).drop (offp t p)).take (TyAt t p).size).take (offStep (TyAt t p) s) := by
        rw [List.take_take, Nat.min_eq_left (by omega), List.take_add]
      have e2 : (cells t x).drop (offp t p + offStep (TyAt t p) s + (tyStep (TyAt t p) s).size) = (((cells t x).drop (offp t p)).take (TyAt t p).size).drop (offStep (TyAt t p) s + (tyStep (TyAt t p) s).size) ++ (cells t x).drop (offp t p + (TyAt t p).size) := by
        have hlen : (((cells t x).drop (offp t p)).take (TyAt t p).size).length = (TyAt t p).size := by
          rw [List.length_take, List.length_drop]; omega
        have key : ∀ (l m : List Value) (k z : Nat), l.length = z → k ≤ z → (l ++ m).drop k = l.drop k ++ m := by
          intro l m k z hz hk
          rw [List.drop_append, Nat.sub_eq_zero_of_le (by omega), List.drop_zero]
        rw [← key _ _ _ _ hlen g2, show (cells t x).drop (offp t p + (TyAt t p).size) = ((cells t x).drop (offp t p)).drop (TyAt t p).size from (List.drop_drop ..).symm,
          List.take_append_drop, List.drop_drop, Nat.add_assoc]
      rw [e1, e2]
      simp [List.append_assoc]
end Go.Kw
set_option linter.unusedVariables false
namespace Go.Kw

inductive Fact where
  | box (b tid : Nat) (t : Ty) (x : El t)
  | one (b tid : Nat) (v : Value)
  | lst (v : Value) (t : Ty) (xs : List (El t))
  | row (v : Value) (tid : Nat) (t : Ty) (xs : List (El t))
  | con (b tid : Nat) (t : Ty) (x : El t)
  | obj (b : Nat) (o : Obj)

def flatl (t : Ty) (xs : List (El t)) : List Value := xs.flatMap (cells t)

def isList (h : Array Obj) (v : Value) (t : Ty) (xs : List (El t)) : Prop :=
  (∀ x ∈ xs, wf t x) ∧ ((v = .slice none 0 0 ∧ xs = []) ∨
    ∃ b off cap cs tid fr, v = .slice (some ⟨b, off, none⟩) xs.length cap ∧ h[b]? = some (.cells cs tid fr) ∧ (cs.toList.drop off).take (xs.length * t.size) = flatl t xs)

def isRow (h : Array Obj) (v : Value) (tid : Nat) (t : Ty) (xs : List (El t)) : Prop :=
  (∀ x ∈ xs, wf t x) ∧ ((v = .slice none 0 0 ∧ xs = []) ∨
   ∃ g cap cur, v = .slice (some ⟨g, 0, none⟩) xs.length cap ∧ h[g]? = some (.cells cur tid (0, 0)) ∧ xs.length ≤ cap ∧ cap ≤ maxLen ∧ cur.size = cap * t.size ∧ cur.toList.take (xs.length * t.size) = flatl t xs)

def Fact.holds (h : Array Obj) : Fact → Prop
  | .box b tid t x => h[b]? = some (.cells (cells t x).toArray tid (0, 0)) ∧ wf t x
  | .one b tid v => h[b]? = some (.cells #[v] tid (0, 0)) ∧ v.oneCell' = true
  | .lst v t xs => isList h v t xs
  | .row v tid t xs => isRow h v tid t xs
  | .con b tid t x => (∃ fr, h[b]? = some (.cells (cells t x).toArray tid fr)) ∧ wf t x
  | .obj b o => h[b]? = some o

def ownL (v : Value) : List Nat := v.ownBlock.toList

def Fact.mut : Fact → List Nat
  | .box b _ _ _ => [b]
  | .one b _ _ => [b]
  | .lst _ _ _ => []
  | .row v _ _ _ => ownL v
  | .con _ _ _ _ => []
  | .obj b _ => [b]
def Fact.imm : Fact → List Nat
  | .lst v _ _ => ownL v
  | .con b _ _ _ => [b]
  | _ => []

theorem sub_flatMap {α β : Type} (g : α → List β) : ∀ {l m : List α}, List.Sublist l m → List.Sublist (l.flatMap g) (m.flatMap g)
  | _, _, .slnil => by simp
  | _, _, .cons a h => by
    simp only [List.flatMap_cons]
    exact (sub_flatMap g h).trans (List.sublist_append_right _ _)
  | _, _, .cons_cons a h => by
    simp only [List.flatMap_cons]
    exact List.Sublist.append_left (sub_flatMap g h) _

def muts (M : List Fact) : List Nat := M.flatMap Fact.mut
def imms (M : List Fact) : List Nat := M.flatMap Fact.imm

structure Mem (M : List Fact) (w : World) : Prop where
  all : ∀ f ∈ M, f.holds w.heap
  nodup : (muts M).Nodup
  disj : ∀ b ∈ imms M, b ∉ muts M

structure Step (M : List Fact) (w : World) (M' : List Fact) (w' : World) : Prop where
  size : w.heap.size ≤ w'.heap.size
  same : ∀ b, b < w.heap.size → b ∉ muts M → w'.heap[b]? = w.heap[b]?
  mutb : ∀ b ∈ muts M', b ∈ muts M ∨ w.heap.size ≤ b
  immb : ∀ b ∈ imms M', b ∈ muts M ∨ b ∈ imms M ∨ w.heap.size ≤ b
  os : w'.os = w.os
  tape : w'.tape = w.tape
  output : w'.output = w.output

theorem Step.refl (M : List Fact) (w : World) : Step M w M w :=
  ⟨Nat.le_refl _, fun _ _ _ => rfl, fun _ h => .inl h, fun _ h => .inr (.inl h), rfl, rfl, rfl⟩

theorem Fact.lt {f : Fact} {h : Array Obj} (hf : f.holds h) {b : Nat} (hb : b ∈ f.mut ∨ b ∈ f.imm) : b < h.size := by
  cases f with
  | box c tid t x =>
    simp [Fact.mut, Fact.imm] at hb; subst hb
    exact (Array.getElem?_eq_some_iff.1 hf.1).1
  | one c tid v =>
    simp [Fact.mut, Fact.imm] at hb; subst hb
    exact (Array.getElem?_eq_some_iff.1 hf.1).1
  | lst v t xs =>
    simp [Fact.mut, Fact.imm, ownL] at hb
    rcases hf.2 with ⟨rfl, _⟩ | ⟨b', off, cap, cs, tid, fr, rfl, hg, _⟩
    · simp [Value.ownBlock] at hb
    · simp [Value.ownBlock] at hb; subst hb; exact (Array.getElem?_eq_some_iff.1 hg).1
  | row v tid t xs =>
    simp [Fact.mut, Fact.imm, ownL] at hb
    rcases hf.2 with ⟨rfl, _⟩ | ⟨g, cap, cur, rfl, hg, _⟩
    · simp [Value.ownBlock] at hb
    · simp [Value.ownBlock] at hb; subst hb; exact (Array.getElem?_eq_some_iff.1 hg).1
  | con c tid t x =>
    simp [Fact.mut, Fact.imm] at hb; subst hb
    obtain ⟨⟨fr, hg⟩, _⟩ := hf
    exact (Array.getElem?_eq_some_iff.1 hg).1
  | obj c o =>
    simp [Fact.mut, Fact.imm] at hb; subst hb
    exact (Array.getElem?_eq_some_iff.1 hf).1

theorem Fact.keep {f : Fact} {h h' : Array Obj} (hf : f.holds h) (hs : ∀ b, b ∈ f.mut ∨ b ∈ f.imm → h'[b]? = h[b]?) : f.holds h' := by
  cases f with
  | box c tid t x => exact ⟨by rw [hs c (by simp [Fact.mut])]; exact hf.1, hf.2⟩
  | one c tid v => exact ⟨by rw [hs c (by simp [Fact.mut])]; exact hf.1, hf.2⟩
  | lst v t xs =>
    refine ⟨hf.1, ?_⟩
    rcases hf.2 with h0 | ⟨b', off, cap, cs, tid, fr, rfl, hg, hr⟩
    · exact .inl h0
    · exact .inr ⟨b', off, cap, cs, tid, fr, rfl, by rw [hs b' (by simp [Fact.imm, ownL, Value.ownBlock])]; exact hg, hr⟩
  | row v tid t xs =>
    refine ⟨hf.1, ?_⟩
    rcases hf.2 with h0 | ⟨g, cap, cur, rfl, hg, hr⟩
    · exact .inl h0
    · exact .inr ⟨g, cap, cur, rfl, by rw [hs g (by simp [Fact.mut, ownL, Value.ownBlock])]; exact hg, hr⟩
  | con c tid t x =>
    obtain ⟨⟨fr, hg⟩, hw⟩ := hf
    exact ⟨⟨fr, by rw [hs c (by simp [Fact.imm])]; exact hg⟩, hw⟩
  | obj c o => exact (hs c (by simp [Fact.mut])).trans hf

theorem mem_muts {M : List Fact} {b : Nat} : b ∈ muts M ↔ ∃ f ∈ M, b ∈ f.mut := by simp [muts, List.mem_flatMap]
theorem mem_imms {M : List Fact} {b : Nat} : b ∈ imms M ↔ ∃ f ∈ M, b ∈ f.imm := by simp [imms, List.mem_flatMap]

theorem Mem.lt {M : List Fact} {w : World} (hm : Mem M w) {b : Nat} (hb : b ∈ muts M ∨ b ∈ imms M) : b < w.heap.size := by
  rcases hb with hb | hb
  · obtain ⟨f, hf, hb⟩ := mem_muts.1 hb; exact Fact.lt (hm.all f hf) (.inl hb)
  · obtain ⟨f, hf, hb⟩ := mem_imms.1 hb; exact Fact.lt (hm.all f hf) (.inr hb)

theorem Step.trans {M M1 M2 : List Fact} {w w1 w2 : World} (h : Step M w M1 w1) (h' : Step M1 w1 M2 w2) : Step M w M2 w2 := by
  refine ⟨Nat.le_trans h.size h'.size, fun b hb hn => ?_, fun b hb => ?_, fun b hb => ?_, h'.os.trans h.os, h'.tape.trans h.tape, h'.output.trans h.output⟩
  · rw [h'.same b (Nat.lt_of_lt_of_le hb h.size) (fun hm => ?_), h.same b hb hn]
    rcases h.mutb b hm with hm | hm
    · exact hn hm
    · omega
  · rcases h'.mutb b hb with hb | hb
    · exact h.mutb b hb
    · exact .inr (Nat.le_trans h.size hb)
  · rcases h'.immb b hb with hb | hb | hb
    · rcases h.mutb b hb with hb | hb
      · exact .inl hb
      · exact .inr (.inr hb)
    · exact h.immb b hb
    · exact .inr (.inr (Nat.le_trans h.size hb))

/-- Facts may be dropped. -/
theorem Mem.sub {M M' : List Fact} {w : World} (hm : Mem M w) (hs : List.Sublist M' M) : Mem M' w := by
  have hmut : List.Sublist (muts M') (muts M) := by
    unfold muts; exact sub_flatMap _ hs
  have himm : List.Sublist (imms M') (imms M) := by
    unfold imms; exact sub_flatMap _ hs
  exact ⟨fun f hf => hm.all f (hs.subset hf), hm.nodup.sublist hmut, fun b hb hn => hm.disj b (himm.subset hb) (hmut.subset hn)⟩
theorem Step.sub {M M' : List Fact} {w : World} (hs : List.Sublist M' M) : Step M w M' w := by
  have hmut : List.Sublist (muts M') (muts M) := by
    unfold muts; exact sub_flatMap _ hs
  have himm : List.Sublist (imms M') (imms M) := by
    unfold imms; exact sub_flatMap _ hs
  exact ⟨Nat.le_refl _, fun _ _ _ => rfl, fun b hb => .inl (hmut.subset hb), fun b hb => .inr (.inl (himm.subset hb)), rfl, rfl, rfl⟩

theorem Mem.perm {M M' : List Fact} {w : World} (hm : Mem M w) (hp : List.Perm M' M) : Mem M' w := by
  have hmut : List.Perm (muts M') (muts M) := List.Perm.flatMap_right _ hp
  have himm : List.Perm (imms M') (imms M) := List.Perm.flatMap_right _ hp
  exact ⟨fun f hf => hm.all f (hp.subset hf), hmut.nodup_iff.2 hm.nodup, fun b hb hn => hm.disj b (himm.subset hb) (hmut.subset hn)⟩
theorem Step.perm {M M' : List Fact} {w : World} (hp : List.Perm M' M) : Step M w M' w := by
  have hmut : List.Perm (muts M') (muts M) := List.Perm.flatMap_right _ hp
  have himm : List.Perm (imms M') (imms M) := List.Perm.flatMap_right _ hp
  exact ⟨Nat.le_refl _, fun _ _ _ => rfl, fun b hb => .inl (hmut.subset hb), fun b hb => .inr (.inl (himm.subset hb)), rfl, rfl, rfl⟩

/-- A new fact over a world in which all old blocks are as they were. -/
theorem Mem.cons {M : List Fact} {w w' : World} {f : Fact} (hm : Mem M w) (hsz : w.heap.size ≤ w'.heap.size)
    (hsame : ∀ b, b < w.heap.size → w'.heap[b]? = w.heap[b]?) (hf : f.holds w'.heap)
    (hmut : ∀ b ∈ f.mut, w.heap.size ≤ b) (hnd : f.mut.Nodup) (himm : ∀ b ∈ f.imm, b ∉ muts M ∧ b ∉ f.mut) : Mem (f :: M) w' := by
  refine ⟨fun g hg => ?_, ?_, fun b hb hn => ?_⟩
  · rcases List.mem_cons.1 hg with rfl | hg
    · exact hf
    · exact Fact.keep (hm.all g hg) fun b hb => hsame b (Fact.lt (hm.all g hg) hb)
  · show (f.mut ++ muts M).Nodup
    refine List.nodup_append.2 ⟨hnd, hm.nodup, fun a ha b hb e => ?_⟩
    subst e
    have := hmut a ha
    have := hm.lt (.inl hb)
    omega
  · have hb' : b ∈ f.imm ∨ b ∈ imms M := by simpa [imms] using hb
    have hn' : b ∈ f.mut ∨ b ∈ muts M := by simpa [muts] using hn
    rcases hb' with hb' | hb'
    · rcases hn' with hn' | hn'
      · exact (himm b hb').2 hn'
      · exact (himm b hb').1 hn'
    · rcases hn' with hn' | hn'
      · have := hmut b hn'; have := hm.lt (.inr hb'); omega
      · exact hm.disj b hb' hn'

theorem Step.cons {M : List Fact} {w w' : World} {f : Fact} (hsz : w.heap.size ≤ w'.heap.size)
    (hsame : ∀ b, b < w.heap.size → w'.heap[b]? = w.heap[b]?)
    (hmut : ∀ b ∈ f.mut, w.heap.size ≤ b) (himm : ∀ b ∈ f.imm, b ∈ muts M ∨ b ∈ imms M ∨ w.heap.size ≤ b)
    (hos : w'.os = w.os) (ht : w'.tape = w.tape) (ho : w'.output = w.output) : Step M w (f :: M) w' := by
  refine ⟨hsz, fun b hb _ => hsame b hb, fun b hb => ?_, fun b hb => ?_, hos, ht, ho⟩
  · have hb' : b ∈ f.mut ∨ b ∈ muts M := by simpa [muts] using hb
    rcases hb' with hb' | hb'
    · exact .inr (hmut b hb')
    · exact .inl hb'
  · have hb' : b ∈ f.imm ∨ b ∈ imms M := by simpa [imms] using hb
    rcases hb' with hb' | hb'
    · exact himm b hb'
    · exact .inr (.inl hb')

/-- The head fact is replaced: its blocks alone (and new ones) have changed. -/
theorem Mem.head {M : List Fact} {w w' : World} {f f' : Fact} (hm : Mem (f :: M) w) (hsz : w.heap.size ≤ w'.heap.size)
    (hsame : ∀ b, b < w.heap.size → b ∉ f.mut → w'.heap[b]? = w.heap[b]?) (hf : f'.holds w'.heap) (hnd : f'.mut.Nodup)
    (hmut : ∀ b ∈ f'.mut, b ∈ f.mut ∨ w.heap.size ≤ b) (himm : f'.imm = []) : Mem (f' :: M) w' := by
  have hnd0 : (f.mut ++ muts M).Nodup := hm.nodup
  have hdis := (List.nodup_append.1 hnd0).2.2
  refine ⟨fun g hg => ?_, ?_, fun b hb hn => ?_⟩
  · rcases List.mem_cons.1 hg with rfl | hg
    · exact hf
    · have hgh := hm.all g (List.mem_cons_of_mem _ hg)
      refine Fact.keep hgh fun b hb => hsame b (Fact.lt hgh hb) fun hbf => ?_
      rcases hb with hb | hb
      · exact hdis b hbf b (mem_muts.2 ⟨g, hg, hb⟩) rfl
      · exact hm.disj b (mem_imms.2 ⟨g, List.mem_cons_of_mem _ hg, hb⟩) (mem_muts.2 ⟨f, by simp, hbf⟩)
  · show (f'.mut ++ muts M).Nodup
    refine List.nodup_append.2 ⟨hnd, (List.nodup_append.1 hnd0).2.1, fun a ha b hb e => ?_⟩
    subst e
    rcases hmut a ha with h | h
    · exact hdis a h a hb rfl
    · have := hm.lt (b := a) (.inl (by simp only [muts, List.flatMap_cons, List.mem_append]; exact .inr hb)); omega
  · have hb' : b ∈ imms M := by simpa [imms, himm] using hb
    have hn' : b ∈ f'.mut ∨ b ∈ muts M := by simpa [muts] using hn
    have hbi : b ∈ imms (f :: M) := by simp only [imms, List.flatMap_cons, List.mem_append]; exact .inr hb'
    rcases hn' with hn' | hn'
    · rcases hmut b hn' with h | h
      · exact hm.disj b hbi (mem_muts.2 ⟨f, by simp, h⟩)
      · have := hm.lt (.inr hbi); omega
    · exact hm.disj b hbi (by simp only [muts, List.flatMap_cons, List.mem_append]; exact .inr hn')

theorem Step.head {M : List Fact} {w w' : World} {f f' : Fact} (hsz : w.heap.size ≤ w'.heap.size)
    (hsame : ∀ b, b < w.heap.size → b ∉ f.mut → w'.heap[b]? = w.heap[b]?)
    (hmut : ∀ b ∈ f'.mut, b ∈ f.mut ∨ w.heap.size ≤ b) (himm : f'.imm = [])
    (hos : w'.os = w.os) (ht : w'.tape = w.tape) (ho : w'.output = w.output) : Step (f :: M) w (f' :: M) w' := by
  refine ⟨hsz, fun b hb hn => hsame b hb (fun h => hn (by simp only [muts, List.flatMap_cons, List.mem_append]; exact .inl h)), fun b hb => ?_, fun b hb => ?_, hos, ht, ho⟩
  · have hb' : b ∈ f'.mut ∨ b ∈ muts M := by simpa [muts] using hb
    rcases hb' with hb' | hb'
    · rcases hmut b hb' with h | h
      · exact .inl (mem_muts.2 ⟨f, by simp, h⟩)
      · exact .inr h
    · exact .inl (by simp only [muts, List.flatMap_cons, List.mem_append]; exact .inr hb')
  · have hb' : b ∈ imms M := by simpa [imms, himm] using hb
    exact .inr (.inl (by simp only [imms, List.flatMap_cons, List.mem_append]; exact .inr hb'))

theorem muts_app (A M : List Fact) : muts (A ++ M) = muts A ++ muts M := by simp [muts]
theorem imms_app (A M : List Fact) : imms (A ++ M) = imms A ++ imms M := by simp [imms]
/-- What is beside lies as it lay. -/
theorem Mem.frame {A M M' : List Fact} {w w' : World} (h : Mem (A ++ M) w) (hm : Mem M' w') (hs : Step M w M' w') : Mem (A ++ M') w' := by
  have hnd := h.nodup
  rw [muts_app] at hnd
  obtain ⟨n1, n2, n3⟩ := List.nodup_append.1 hnd
  have hlt : ∀ b, b ∈ muts A ∨ b ∈ imms A → b < w.heap.size := fun b hb => h.lt (by
    rw [muts_app, imms_app, List.mem_append, List.mem_append]; exact hb.elim (fun h => .inl (.inl h)) (fun h => .inr (.inl h)))
  have hiA : ∀ b, b ∈ imms A → b ∉ muts A ∧ b ∉ muts M := fun b hb => by
    have := h.disj b (by rw [imms_app, List.mem_append]; exact .inl hb)
    rw [muts_app, List.mem_append] at this
    exact ⟨fun h => this (.inl h), fun h => this (.inr h)⟩
  refine ⟨fun f hf => ?_, ?_, fun b hb hn => ?_⟩
  · rcases List.mem_append.1 hf with hf | hf
    · refine Fact.keep (h.all f (List.mem_append.2 (.inl hf))) fun b hb => hs.same b ?_ ?_
      · exact Fact.lt (h.all f (List.mem_append.2 (.inl hf))) hb
      · rcases hb with hb | hb
        · exact fun hc => n3 b (mem_muts.2 ⟨f, hf, hb⟩) b hc rfl
        · exact (hiA b (mem_imms.2 ⟨f, hf, hb⟩)).2
    · exact hm.all f hf
  · rw [muts_app]
    refine List.nodup_append.2 ⟨n1, hm.nodup, fun a ha b hb e => ?_⟩
    subst e
    rcases hs.mutb a hb with hb | hb
    · exact n3 a ha a hb rfl
    · have := hlt a (.inl ha); omega
  · rw [imms_app, List.mem_append] at hb
    rw [muts_app, List.mem_append] at hn
    rcases hb with hb | hb
    · rcases hn with hn | hn
      · exact (hiA b hb).1 hn
      · rcases hs.mutb b hn with hn | hn
        · exact (hiA b hb).2 hn
        · have := hlt b (.inr hb); omega
    · rcases hn with hn | hn
      · rcases hs.immb b hb with hb | hb | hb
        · exact n3 b hn b hb rfl
        · exact h.disj b (by rw [imms_app, List.mem_append]; exact .inr hb) (by rw [muts_app, List.mem_append]; exact .inl hn)
        · have := hlt b (.inl hn); omega
      · exact hm.disj b hb hn
theorem Step.frame {A M M' : List Fact} {w w' : World} (hs : Step M w M' w') : Step (A ++ M) w (A ++ M') w' := by
  refine ⟨hs.size, fun b hb hn => hs.same b hb fun h => hn (by rw [muts_app, List.mem_append]; exact .inr h), fun b hb => ?_, fun b hb => ?_, hs.os, hs.tape, hs.output⟩
  · rw [muts_app, List.mem_append] at hb ⊢
    rcases hb with hb | hb
    · exact .inl (.inl hb)
    · exact (hs.mutb b hb).imp .inr id
  · rw [imms_app, List.mem_append] at hb
    rw [muts_app, imms_app, List.mem_append, List.mem_append]
    rcases hb with hb | hb
    · exact .inr (.inl (.inl hb))
    · rcases hs.immb b hb with h | h | h
      · exact .inl (.inr h)
      · exact .inr (.inl (.inr h))
      · exact .inr (.inr h)

/-- A row is given up: a list from now on. -/
theorem Mem.freeze {M : List Fact} {w : World} {v : Value} {tid : Nat} {t : Ty} {xs : List (El t)} (hm : Mem (.row v tid t xs :: M) w) : Mem (.lst v t xs :: M) w := by
  have hr : isRow w.heap v tid t xs := hm.all (.row v tid t xs) (by simp)
  have hnd0 : (ownL v ++ muts M).Nodup := hm.nodup
  refine ⟨fun g hg => ?_, (List.nodup_append.1 hnd0).2.1, fun b hb hn => ?_⟩
  · rcases List.mem_cons.1 hg with rfl | hg
    · refine ⟨hr.1, ?_⟩
      rcases hr.2 with h0 | ⟨g, cap, cur, rfl, hg, _, _, _, ht⟩
      · exact .inl h0
      · exact .inr ⟨g, 0, cap, cur, tid, _, rfl, hg, by rw [List.drop_zero]; exact ht⟩
    · exact hm.all g (List.mem_cons_of_mem _ hg)
  · have hb' : b ∈ ownL v ∨ b ∈ imms M := by simpa [imms, Fact.imm] using hb
    have hn' : b ∈ muts M := by simpa [muts, Fact.mut] using hn
    rcases hb' with hb' | hb'
    · exact (List.nodup_append.1 hnd0).2.2 b hb' b hn' rfl
    · exact hm.disj b (by simp only [imms, List.flatMap_cons, List.mem_append]; exact .inr hb') (by simp only [muts, List.flatMap_cons, List.mem_append]; exact .inr hn')
theorem Step.freeze {M : List Fact} {w : World} {v : Value} {tid : Nat} {t : Ty} {xs : List (El t)} : Step (.row v tid t xs :: M) w (.lst v t xs :: M) w := by
  refine ⟨Nat.le_refl _, fun _ _ _ => rfl, fun b hb => .inl ?_, fun b hb => ?_, rfl, rfl, rfl⟩
  · simp only [muts, List.flatMap_cons, List.mem_append, Fact.mut] at *
    rcases hb with hb | hb
    · cases hb
    · exact .inr hb
  · simp only [imms, muts, List.flatMap_cons, List.mem_append, Fact.mut, Fact.imm] at *
    rcases hb with hb | hb
    · exact .inl (.inl hb)
    · exact .inr (.inl (.inr hb))
end Go.Kw
set_option linter.unusedVariables false
namespace Go.Kw

abbrev Tm := List (Nat × Value)

def lk : Tm → Nat → Option Value
  | [], _ => none
  | (j, v) :: r, i => bif Nat.beq j i then some v else lk r i

def Knows (n : Nat) (T : Tm) (a : Act) : Prop :=
  a.tmps.size = n ∧ a.defers = [] ∧ ∀ i v, lk T i = some v → a.tmps[i]? = some v

def look (T : Tm) : Operand → Option Value
  | .tmp i => lk T i
  | .const v => some v
  | .global g => some (.pointer (some ⟨g, 0, none⟩))
  | .func f => some (.func (.func f) #[] #[])

def looks (T : Tm) : List Operand → Option (List Value)
  | [] => some []
  | x :: r => match look T x, looks T r with
    | some v, some vs => some (v :: vs)
    | _, _ => none

section
variable {P : Program} {n : Nat} {T : Tm} {a : Act}

theorem Knows.eval (hk : Knows n T a) {x : Operand} {v : Value} (h : look T x = some v) : a.eval x = v := by
  cases x with
  | tmp i =>
    have := hk.2.2 i v h
    simp [Act.eval, Array.getD_eq_getD_getElem?, this]
  | const u => exact Option.some.inj h
  | global g => exact Option.some.inj h
  | func f => exact Option.some.inj h

theorem Knows.evals (hk : Knows n T a) : ∀ {l : List Operand} {vs : List Value}, looks T l = some vs → l.map a.eval = vs
  | [], vs, h => by simp [looks] at h; subst h; rfl
  | x :: r, vs, h => by
    simp only [looks] at h
    split at h
    · rename_i v vs' h1 h2
      cases h
      rw [List.map_cons, hk.eval h1, hk.evals h2]
    · cases h

theorem Knows.put (hk : Knows n T a) {d : Nat} (hd : d < n) (v : Value) : Knows n ((d, v) :: T) (a.put (some d) v) := by
  refine ⟨by simpa [Act.put] using hk.1, hk.2.1, fun i u h => ?_⟩
  simp only [lk] at h
  simp only [Act.put]
  by_cases e : d = i
  · subst e
    rw [Nat.beq_refl] at h
    cases h
    rw [Array.getElem?_setIfInBounds_self_of_lt (by rw [hk.1]; exact hd)]
  · have : Nat.beq d i = false := by
      rw [Bool.eq_false_iff]; intro h; exact e (Nat.eq_of_beq_eq_true h)
    rw [this] at h
    rw [Array.getElem?_setIfInBounds_ne e]
    exact hk.2.2 i u h

/-- All that T1 says, T says. -/
def Says (T : Tm) : Tm → Prop
  | [] => True
  | (i, v) :: r => lk T i = some v ∧ Says T r
theorem Says.lk {T : Tm} : ∀ {T1 : Tm}, Says T T1 → ∀ i v, lk T1 i = some v → Kw.lk T i = some v
  | [], _, i, v, h => by simp [Kw.lk] at h
  | (j, u) :: r, hs, i, v, h => by
    simp only [Kw.lk] at h
    by_cases e : j = i
    · subst e
      rw [Nat.beq_refl] at h
      cases h
      exact hs.1
    · have : Nat.beq j i = false := by
        rw [Bool.eq_false_iff]; intro h; exact e (Nat.eq_of_beq_eq_true h)
      rw [this] at h
      exact Says.lk hs.2 i v h
theorem Knows.weak {T1 : Tm} (hk : Knows n T a) (h : Says T T1) : Knows n T1 a := ⟨hk.1, hk.2.1, fun i v hi => hk.2.2 i v (h.lk i v hi)⟩

/-! ### Code -/
abbrev Post := Exit → Tm → List Fact → Prop

def W (P : Program) (n : Nat) (c : Code) (Q : Post) (T : Tm) (M : List Fact) : Prop :=
  ∀ a w, Knows n T a → Mem M w → c.wp P (fun e a' w' => ∃ T' M', Knows n T' a' ∧ Mem M' w' ∧ Step M w M' w' ∧ Q e T' M') a w

def thenQ (next : Tm → List Fact → Prop) (Q : Post) : Post
  | .normal => next
  | e => Q e
def blockQ (id : Nat) (Q : Post) : Post
  | .exit i => bif Nat.beq i id then Q .normal else Q (.exit i)
  | e => Q e

variable {Q : Post} {M : List Fact} {x y c : Code}

theorem W_mono {Q' : Post} (h : W P n c Q T M) (hq : ∀ e T M, Q e T M → Q' e T M) : W P n c Q' T M :=
  fun a w hk hm => Code.wp_mono (fun e a' w' ⟨T', M', h1, h2, h3, h4⟩ => ⟨T', M', h1, h2, h3, hq _ _ _ h4⟩) (h a w hk hm)

theorem W_weak {T1 : Tm} (hT : Says T T1) (h : W P n c Q T1 M) : W P n c Q T M := fun a w hk hm => h a w (hk.weak hT) hm

theorem W_sub {M1 : List Fact} (hs : List.Sublist M1 M) (h : W P n c Q T M1) : W P n c Q T M := fun a w hk hm =>
  Code.wp_mono (fun e a' w' ⟨T', M', h1, h2, h3, h4⟩ => ⟨T', M', h1, h2, (Step.sub hs).trans h3, h4⟩) (h a w hk (hm.sub hs))
theorem W_seq (h : W P n x (thenQ (W P n y Q) Q) T M) : W P n (.seq x y) Q T M := fun a w hk hm =>
  wp_seq (Code.wp_mono (fun e a' w' ⟨T', M', h1, h2, h3, h4⟩ => by
    cases e with
    | normal => exact Code.wp_mono (fun e a'' w'' ⟨T'', M'', g1, g2, g3, g4⟩ => ⟨T'', M'', g1, g2, h3.trans g3, g4⟩) (h4 a' w' h1 h2)
    | _ => exact ⟨T', M', h1, h2, h3, h4⟩) (h a w hk hm))
theorem W_cond {o : Operand} {b : Bool} (hc : look T o = some (.bool b)) (ht : b = true → W P n x Q T M) (hf : b = false → W P n y Q T M) :
    W P n (.cond o x y) Q T M := fun a w hk hm =>
  wp_cond_split (hk.eval hc) (fun e => ht e a w hk hm) (fun e => hf e a w hk hm)
theorem W_condt {o : Operand} (hc : look T o = some (.bool true)) (ht : W P n x Q T M) : W P n (.cond o x y) Q T M := fun a w hk hm =>
  wp_cond_true (hk.eval hc) (ht a w hk hm)
theorem W_condf {o : Operand} (hc : look T o = some (.bool false)) (hf : W P n y Q T M) : W P n (.cond o x y) Q T M := fun a w hk hm =>
  wp_cond_false (hk.eval hc) (hf a w hk hm)
theorem W_skip (h : Q .normal T M) : W P n .skip Q T M := fun a w hk hm => wp_skip ⟨T, M, hk, hm, Step.refl _ _, h⟩
theorem W_label {l : Nat} (h : Q .normal T M) : W P n (.label l) Q T M := fun a w hk hm => wp_label ⟨T, M, hk, hm, Step.refl _ _, h⟩
theorem W_exit {id : Nat} (h : Q (.exit id) T M) : W P n (.exit id) Q T M := fun a w hk hm => wp_exit ⟨T, M, hk, hm, Step.refl _ _, h⟩
theorem W_ret (h : Q .ret T M) : W P n .ret Q T M := fun a w hk hm => wp_ret ⟨T, M, hk, hm, Step.refl _ _, h⟩
theorem W_block {id : Nat} (h : W P n c (blockQ id Q) T M) : W P n (.block id c) Q T M := fun a w hk hm =>
  wp_block (Code.wp_mono (fun e a' w' ⟨T', M', h1, h2, h3, h4⟩ => by
    cases e with
    | exit i =>
      simp only [Exit.inBlock]
      by_cases e : i = id
      · subst e
        rw [if_pos rfl]
        refine ⟨T', M', h1, h2, h3, ?_⟩
        have h4' : (bif Nat.beq i i then Q .normal else Q (.exit i)) T' M' := h4
        rw [Nat.beq_refl] at h4'
        exact h4'
      · rw [if_neg e]
        refine ⟨T', M', h1, h2, h3, ?_⟩
        have h4' : (bif Nat.beq i id then Q .normal else Q (.exit i)) T' M' := h4
        have hb : Nat.beq i id = false := by
          rw [Bool.eq_false_iff]; intro h; exact e (Nat.eq_of_beq_eq_true h)
        rw [hb] at h4'
        exact h4'
    | _ => exact ⟨T', M', h1, h2, h3, h4⟩) (h a w hk hm))

theorem wp_loop_rel {σ : Type} {Q : Exit → Act → World → Prop} {w : World} (I : σ → Act → World → Prop) (μ : σ → Nat) (s0 : σ) (h0 : I s0 a w)
    (round : ∀ s a w, I s a w → c.wp P (Exit.then (fun a' w' => ∃ s', μ s' < μ s ∧ I s' a' w') Q) a w) : (Code.loop c).wp P Q a w := by
  intro b k cs
  have key : ∀ m s a w, μ s = m → I s a w →
      ∃ e a' w', Q e a' w' ∧ Arrives P (lone (b.at a (.code c :: .inLoop c :: k)) cs w) b k cs e a' w' := by
    intro m
    induction m using Nat.strongRecOn with
    | _ m ih =>
      intro s a w hn hI
      obtain ⟨e, a₁, w₁, hq, harr⟩ := round s a w hI b (.inLoop c :: k) cs
      cases e with
      | normal =>
        obtain ⟨s', hlt, hI₁⟩ := hq
        obtain ⟨e₂, a₂, w₂, hq₂, harr₂⟩ := ih (μ s') (hn ▸ hlt) s' a₁ w₁ rfl hI₁
        exact ⟨e₂, a₂, w₂, hq₂, .of_steps (Steps.trans harr (.one step_inLoop)) harr₂⟩
      | exit id => exact ⟨_, a₁, w₁, hq, .pass (x := .inLoop c) rfl (fun _ _ => .inl (by simp)) harr⟩
      | goto l => exact ⟨_, a₁, w₁, hq, .pass (x := .inLoop c) rfl (fun _ _ => .inl (by simp)) harr⟩
      | ret => exact ⟨_, a₁, w₁, hq, .pass (x := .inLoop c) rfl (fun _ _ => .inl (by simp)) harr⟩
      | panic ch => exact ⟨_, a₁, w₁, hq, .pass (x := .inLoop c) rfl (fun _ _ => .inl (by simp)) harr⟩
      | outgrown => exact ⟨_, a₁, w₁, hq, .pass (x := .inLoop c) rfl (fun _ _ => .inl (by simp)) harr⟩
  obtain ⟨e, a', w', hq, harr⟩ := key _ s0 a w rfl h0
  exact ⟨e, a', w', hq, .of_steps (.one step_loop) harr⟩

/-- A loop: at the head of each round, some s stands, of which I holds. -/
theorem W_loop {σ : Type} (I : σ → Prop) (Ts : σ → Tm) (Ms : σ → List Fact) (μ : σ → Nat) (s0 : σ) (h0 : I s0) (hT : Says T (Ts s0)) (hM : List.Sublist (Ms s0) M)
    (round : ∀ s, I s → W P n c (thenQ (fun T' M' => ∃ s', μ s' < μ s ∧ I s' ∧ Says T' (Ts s') ∧ List.Sublist (Ms s') M') Q) (Ts s) (Ms s)) : W P n (.loop c) Q T M := fun a w hk hm =>
  wp_loop_rel (fun s a' w' => I s ∧ Knows n (Ts s) a' ∧ Mem (Ms s) w' ∧ Step M w (Ms s) w') μ s0 ⟨h0, hk.weak hT, hm.sub hM, Step.sub hM⟩
    fun s a' w' ⟨hI, hk', hm', hs'⟩ => Code.wp_mono (fun e a'' w'' ⟨T', M', g1, g2, g3, g4⟩ => by
      cases e with
      | normal =>
        obtain ⟨s', k1, k2, k3, k4⟩ := g4
        exact ⟨s', k1, k2, g1.weak k3, g2.sub k4, (hs'.trans g3).trans (Step.sub k4)⟩
      | _ => exact ⟨T', M', g1, g2, hs'.trans g3, g4⟩) (round s hI a' w' hk' hm')

/-- The ways through x meet again. -/
theorem W_cut (T1 : Tm) (M1 : List Fact) (hx : W P n x (thenQ (fun T' M' => Says T' T1 ∧ List.Sublist M1 M') Q) T M) (hy : W P n y Q T1 M1) : W P n (.seq x y) Q T M :=
  W_seq (W_mono hx fun e T' M' h => by
    cases e with
    | normal => exact W_weak h.1 (W_sub h.2 hy)
    | _ => exact h)
/-- The same, with something that is known of the meeting. -/
theorem W_cutE {σ : Type} (I : σ → Prop) (Ts : σ → Tm) (Ms : σ → List Fact) (hx : W P n x (thenQ (fun T' M' => ∃ s, I s ∧ Says T' (Ts s) ∧ List.Sublist (Ms s) M') Q) T M)
    (hy : ∀ s, I s → W P n y Q (Ts s) (Ms s)) : W P n (.seq x y) Q T M :=
  W_seq (W_mono hx fun e T' M' h => by
    cases e with
    | normal => obtain ⟨s, h1, h2, h3⟩ := h; exact W_weak h2 (W_sub h3 (hy s h1))
    | _ => exact h)

/-! ### Operations that leave the memory alone -/
def OpV (P : Program) (n : Nat) (o : Oper) (T : Tm) (M : List Fact) (v : Value) : Prop :=
  ∀ a w, Knows n T a → Mem M w → Oper.quietUpon P (fun w' => Mem M w' ∧ Step M w M w') w v ((execOp a.eval o).run P w)

/-- An operation that yields v at once, the world as it was. -/
def OpX (P : Program) (n : Nat) (o : Oper) (T : Tm) (M : List Fact) (v : Value) : Prop :=
  ∀ a w, Knows n T a → Mem M w → (execOp a.eval o).run P w = .ok (.value v) w
theorem OpX.v {P : Program} {n : Nat} {o : Oper} {T : Tm} {M : List Fact} {v : Value} (h : OpX P n o T M v) : OpV P n o T M v := fun a w hk hm => by
  rw [h a w hk hm]; exact ⟨rfl, rfl⟩

def gv (g : Bool) (v : Value) : Value := bif g then v else undef

theorem quietUpon_mono {C C' : World → Prop} {w : World} {v : Value} {r : Result Next} (h : ∀ w, C w → C' w) (hq : Oper.quietUpon P C w v r) : Oper.quietUpon P C' w v r := by
  cases r with
  | ok x w' => cases x <;> simp only [Oper.quietUpon] at * <;> first | exact hq | exact ⟨hq.1, hq.2.mono fun e w'' ⟨h1, h2⟩ => ⟨h1, h _ h2⟩⟩
  | halt x w' => simp only [Oper.quietUpon] at *

def RO (P : Program) (n : Nat) (ops : Array Oper) (M : List Fact) (l : List Oper) (K : Tm → Prop) (T : Tm) : Prop :=
  ∀ a w0, Knows n T a → wpQuiet P ops (fun w => Mem M w ∧ Step M w0 M w) (fun a' => ∃ T', Knows n T' a' ∧ K T') l a

variable {ops : Array Oper} {l rest : List Oper} {K : Tm → Prop} {o : Oper} {d : Nat} {v : Value}

theorem RO_nil (h : K T) : RO P n ops M [] K T := fun a w0 hk => ⟨T, hk, h⟩
theorem RO_op (hg : o.guard = none) (hd : o.dst = some d) (hn : d < n) (hv : OpV P n o T M v) (hr : RO P n ops M rest K ((d, v) :: T)) : RO P n ops M (o :: rest) K T := fun a w0 hk => by
  unfold wpQuiet
  rw [if_pos (by simp [Region.wanted, hg])]
  refine ⟨v, fun w hw => ?_, by rw [hd]; exact hr _ w0 (hk.put hn v)⟩
  exact quietUpon_mono (fun w' h => ⟨h.1, hw.2.trans h.2⟩) (hv a w hk hw.1)
/-- A guarded operation: the guard's operation has left 'b', if 'g'. -/
theorem RO_g {j e : Nat} {want g b : Bool} {oj : Oper} (hg : o.guard = some (j, want)) (hj : ops[j]? = some oj) (he : oj.dst = some e) (hb : lk T e = some (gv g (.bool b)))
    (hd : o.dst = some d) (hn : d < n) (hv : g = true → b = want → OpV P n o T M v) (hr : RO P n ops M rest K ((d, gv (g && (b == want)) v) :: T)) : RO P n ops M (o :: rest) K T := fun a w0 hk => by
  unfold wpQuiet
  have hcell := hk.2.2 e _ hb
  have hw : Region.wanted o (yielded ops a.tmps) = (g && (b == want)) := by
    simp only [Region.wanted, hg, yielded, hj, Option.bind_some, he, hcell]
    cases g
    · simp [gv, undef]
    · simp [gv]
  rw [hw]
  cases hgb : (g && (b == want)) with
  | true =>
    rw [if_pos rfl]
    rw [hgb] at hr
    simp only [Bool.and_eq_true, beq_iff_eq] at hgb
    refine ⟨v, fun w hw => ?_, by rw [hd]; exact hr _ w0 (hk.put hn v)⟩
    exact quietUpon_mono (fun w' h => ⟨h.1, hw.2.trans h.2⟩) (hv hgb.1 hgb.2 a w hk hw.1)
  | false =>
    rw [if_neg (by simp)]
    rw [hgb] at hr
    rw [hd]
    exact hr _ w0 (hk.put hn undef)
theorem RO_g1 {j e : Nat} {want b : Bool} {oj : Oper} (hg : o.guard = some (j, want)) (hj : ops[j]? = some oj) (he : oj.dst = some e) (hb : lk T e = some (.bool b))
    (hd : o.dst = some d) (hn : d < n) (hv : b = want → OpV P n o T M v) (hr : RO P n ops M rest K ((d, gv (b == want) v) :: T)) : RO P n ops M (o :: rest) K T :=
  RO_g (g := true) hg hj he (by simpa [gv] using hb) hd hn (fun _ => hv) (by simpa using hr)
theorem wpList_of_quiet {C : World → Prop} {Kq : Act → Prop} {Q' : Exit → Act → World → Prop} : ∀ (l : List Oper) (a : Act) (w : World), wpQuiet P ops C Kq l a → C w → (∀ a' w', C w' → Kq a' → Q' .normal a' w') → wpList P ops Q' l a w
  | [], a, w, h, hw, hq => hq a w hw h
  | o :: r, a, w, h, hw, hq => by
    unfold wpQuiet at h
    unfold wpList
    split
    · rename_i hwant
      rw [if_pos hwant] at h
      exact .inl (Oper.wp_of_quiet hw (fun a' w' hw' hk => wpList_of_quiet r a' w' hk hw' hq) h)
    · rename_i hwant
      rw [if_neg hwant] at h
      exact wpList_of_quiet r _ w h hw hq

theorem W_reg {id : Nat} (h : RO P n l.toArray M l (fun T' => Q .normal T' M) T) : W P n (.region id l.toArray false) Q T M := fun a w hk hm =>
  wp_region_lit (wpList_of_quiet l a w (h a w hk) ⟨hm, Step.refl _ _⟩ fun a' w' hw ⟨T', hk', hq⟩ => ⟨T', M, hk', hw.1, hw.2, hq⟩)

theorem Mem.drawn {w : World} (hm : Mem M w) (k : Nat) : Mem M { w with drawn := k } := ⟨hm.all, hm.nodup, hm.disj⟩
theorem Step.drawn (M : List Fact) (w : World) (k : Nat) : Step M w M { w with drawn := k } := ⟨Nat.le_refl _, fun _ _ _ => rfl, fun _ h => .inl h, fun _ h => .inr (.inl h), rfl, rfl, rfl⟩

theorem wpQuiet_mono {C : World → Prop} {K K' : Act → Prop} (h : ∀ a, K a → K' a) : ∀ (l : List Oper) (a : Act), wpQuiet P ops C K l a → wpQuiet P ops C K' l a
  | [], a, hq => h a hq
  | o :: r, a, hq => by
    unfold wpQuiet at hq ⊢
    split
    · rename_i hw
      rw [if_pos hw] at hq
      exact Oper.quiet_mono (fun a' => wpQuiet_mono h r a') hq
    · rename_i hw
      rw [if_neg hw] at hq
      exact wpQuiet_mono h r _ hq

theorem W_regd {id : Nat} (hm : P.follows .mixedOrders = true) (hB : Region.lexB .any l.toArray = true) (h : RO P n l.toArray M l (fun T' => Q .normal T' M) T) : W P n (.region id l.toArray true) Q T M := fun a w hk hmm =>
  wp_region_quiet (C := fun w' => Mem M w' ∧ Step M w M w') hm hB ⟨hmm.drawn _, Step.drawn _ _ _⟩
    (wpQuiet_mono (fun a' ⟨T', h1, h2⟩ w' hw' => ⟨T', M, h1, hw'.1, hw'.2, h2⟩) _ _ (h a w hk))

/-! ### Operations that write, make memory, or call what does -/
def tput : Option Nat → Value → Tm → Tm
  | none, _, T => T
  | some d, v, T => (d, v) :: T
def dstOK (n : Nat) : Option Nat → Prop
  | none => True
  | some d => d < n

def OpL (P : Program) (n : Nat) (o : Oper) (T : Tm) (M : List Fact) (R : Value → List Fact → Prop) : Prop :=
  ∀ a w, Knows n T a → Mem M w → ∀ (next : Act → World → Prop) (Q' : Exit → Act → World → Prop),
    (∀ v M' w', Mem M' w' → Step M w M' w' → R v M' → next (a.put o.dst v) w') → o.wp P a w next Q'

theorem OpL_of_V (hv : OpV P n o T M v) : OpL P n o T M (fun u M' => u = v ∧ M' = M) := fun a w hk hm next Q' hn => by
  have h := hv a w hk hm
  unfold Oper.wp
  generalize (execOp a.eval o).run P w = r at *
  cases r with
  | ok x w' =>
    cases x <;> simp only [Oper.quietUpon] at h <;> simp only [Oper.upon]
    case value u =>
      obtain ⟨rfl, rfl⟩ := h
      exact hn _ M _ hm (Step.refl _ _) ⟨rfl, rfl⟩
    case skip =>
      obtain ⟨rfl, rfl⟩ := h
      exact hn _ M _ hm (Step.refl _ _) ⟨rfl, rfl⟩
    case enter f args =>
      obtain ⟨rfl, hc⟩ := h
      refine hc.mono fun e w'' ⟨he, hw''⟩ => ?_
      subst he
      exact hn _ M _ hw''.1 hw''.2 ⟨rfl, rfl⟩
  | halt x w' => simp only [Oper.quietUpon] at h

/-- The operations of an ordered region, one behind the other. -/
def LO (P : Program) (n : Nat) (ops : Array Oper) (M0 : List Fact) (w0 : World) (l : List Oper) (Q : Tm → List Fact → Prop) (T : Tm) (M : List Fact) : Prop :=
  ∀ a w, Knows n T a → Mem M w → Step M0 w0 M w →
    wpList P ops (fun e a' w' => ∃ T' M', Knows n T' a' ∧ Mem M' w' ∧ Step M0 w0 M' w' ∧ e = .normal ∧ Q T' M') l a w

variable {M0 : List Fact} {w0 : World} {R : Tm → List Fact → Prop}
theorem LO_nil (h : R T M) : LO P n ops M0 w0 [] R T M := fun a w hk hm hs => ⟨T, M, hk, hm, hs, rfl, h⟩
theorem LO_l (hg : o.guard = none) (hn : dstOK n o.dst) (h : OpL P n o T M (fun v M' => LO P n ops M0 w0 rest R (tput o.dst v T) M')) : LO P n ops M0 w0 (o :: rest) R T M := fun a w hk hm hs => by
  refine wpList_plain hg fun K hK => h a w hk hm K _ fun v M' w' hm' hs' hr => hK _ _ ?_
  refine hr _ w' ?_ hm' (hs.trans hs')
  generalize hd : o.dst = d' at *
  cases d' with
  | none => exact hk
  | some d => exact hk.put hn v
theorem LO_op (hg : o.guard = none) (hd : o.dst = some d) (hn : d < n) (hv : OpV P n o T M v) (hr : LO P n ops M0 w0 rest R ((d, v) :: T) M) : LO P n ops M0 w0 (o :: rest) R T M :=
  LO_l hg (by rw [hd]; exact hn) fun a w hk hm next Q' h => OpL_of_V hv a w hk hm next Q' fun u M' w' h1 h2 ⟨e1, e2⟩ => by
    subst e1; subst e2
    exact h _ _ w' h1 h2 (by rw [hd]; exact hr)
theorem LO_g {j e : Nat} {want g b : Bool} {oj : Oper} (hg : o.guard = some (j, want)) (hj : ops[j]? = some oj) (he : oj.dst = some e) (hb : lk T e = some (gv g (.bool b)))
    (hd : o.dst = some d) (hn : d < n) (hv : g = true → b = want → OpV P n o T M v) (hr : LO P n ops M0 w0 rest R ((d, gv (g && (b == want)) v) :: T) M) : LO P n ops M0 w0 (o :: rest) R T M := fun a w hk hm hs => by
  have hcell := hk.2.2 e _ hb
  have hw : Region.wanted o (yielded ops a.tmps) = (g && (b == want)) := by
    simp only [Region.wanted, hg, yielded, hj, Option.bind_some, he, hcell]
    cases g
    · simp [gv, undef]
    · simp [gv]
  refine wpList_step fun K hK => ?_
  rw [hw]
  cases hgb : (g && (b == want)) with
  | true =>
    rw [if_pos rfl]
    rw [hgb] at hr
    simp only [Bool.and_eq_true, beq_iff_eq] at hgb
    refine OpL_of_V (hv hgb.1 hgb.2) a w hk hm K _ fun u M' w' h1 h2 ⟨e1, e2⟩ => hK _ _ ?_
    subst e1; subst e2
    rw [hd]
    exact hr _ w' (hk.put hn _) h1 (hs.trans h2)
  | false =>
    rw [if_neg (by simp)]
    rw [hgb] at hr
    rw [hd]
    exact hK _ _ (hr _ w (hk.put hn undef) hm hs)
theorem LO_g1 {j e : Nat} {want b : Bool} {oj : Oper} (hg : o.guard = some (j, want)) (hj : ops[j]? = some oj) (he : oj.dst = some e) (hb : lk T e = some (.bool b))
    (hd : o.dst = some d) (hn : d < n) (hv : b = want → OpV P n o T M v) (hr : LO P n ops M0 w0 rest R ((d, gv (b == want) v) :: T) M) : LO P n ops M0 w0 (o :: rest) R T M :=
  LO_g (g := true) hg hj he (by simpa [gv] using hb) hd hn (fun _ => hv) (by simpa using hr)

theorem W_regl {id : Nat} (h : ∀ w0, LO P n l.toArray M w0 l (Q .normal) T M) : W P n (.region id l.toArray false) Q T M := fun a w hk hm =>
  Code.wp_mono (fun e a' w' ⟨T', M', h1, h2, h3, h4, h5⟩ => ⟨T', M', h1, h2, h3, by rw [h4]; exact h5⟩) (wp_region_lit (h w a w hk hm (Step.refl _ _)))

/-! ### Contracts -/
def Con (P : Program) (f : FuncId) (args : List Value) (M : List Fact) (R : Value → List Fact → Prop) : Prop :=
  ∀ w, Mem M w → Calls P f args.toArray w (fun e w' => ∃ v M', e = .returned v ∧ Mem M' w' ∧ Step M w M' w' ∧ R v M')
def Pure (P : Program) (f : FuncId) (args : List Value) (M : List Fact) (v : Value) : Prop :=
  ∀ w, Mem M w → Calls P f args.toArray w (fun e w' => e = .returned v ∧ Mem M w' ∧ Step M w M w')

theorem Con.mono {f : FuncId} {args : List Value} {R R' : Value → List Fact → Prop} (h : Con P f args M R) (hr : ∀ v M', R v M' → R' v M') : Con P f args M R' := fun w hm =>
  (h w hm).mono fun e w' ⟨v, M', h1, h2, h3, h4⟩ => ⟨v, M', h1, h2, h3, hr _ _ h4⟩

/-- What a function hands back, as its frame and the memory say. -/
def ResV (P : Program) (n : Nat) (fn : Func) (T : Tm) (M : List Fact) (v : Value) : Prop :=
  ∀ a w, Knows n T a → Mem M w → (results fn a.tmps).run P w = .ok v w
def isEnd : Exit → Prop
  | .normal => True
  | .ret => True
  | _ => False

def params : Nat → List Value → Tm
  | _, [] => []
  | i, v :: r => (i, v) :: params (i + 1) r

theorem params_lk : ∀ (args : List Value) (k i : Nat) (v : Value), lk (params k args) i = some v → k ≤ i ∧ args[i - k]? = some v
  | [], k, i, v, h => by simp [params, lk] at h
  | u :: r, k, i, v, h => by
    simp only [params, lk] at h
    by_cases e : k = i
    · subst e
      rw [Nat.beq_refl] at h
      simp at h
      simp [h]
    · have : Nat.beq k i = false := by
        rw [Bool.eq_false_iff]; intro h; exact e (Nat.eq_of_beq_eq_true h)
      rw [this] at h
      obtain ⟨h1, h2⟩ := params_lk r (k + 1) i v h
      refine ⟨by omega, ?_⟩
      rw [show i - k = (i - (k + 1)) + 1 by omega]
      simpa using h2

theorem con_of_W {f : FuncId} {fn : Func} {args : List Value} {R : Value → List Fact → Prop} (hf : P.funcs[f]? = some fn) (hb : fn.body = some c) (hn : fn.ntmps = n) (hl : args.length ≤ n)
    (h : W P n c (fun e T' M' => isEnd e ∧ ∃ v M'', ResV P n fn T' M' v ∧ List.Sublist M'' M' ∧ R v M'') (params 0 args) M) : Con P f args M R := fun w hm => by
  refine calls_of_wp hf hb (Code.wp_mono ?_ (h _ w ⟨?_, rfl, fun i v hi => ?_⟩ hm))
  · rintro e a' w' ⟨T', M', h1, h2, h3, he, v, M'', h4, h5, h6⟩
    cases e <;> first
      | exact ⟨h1.2.1, v, h4 a' w' h1 h2, v, M'', rfl, h2.sub h5, h3.trans (Step.sub h5), h6⟩
      | exact he.elim
  · simp [hn]; omega
  · have := (params_lk args 0 i v hi).2
    simp at this
    have hlt : i < args.length := (List.getElem?_eq_some_iff.1 this).1
    rw [Array.getElem?_append_left (by simpa using hlt)]
    simpa using this
theorem pure_of_W {f : FuncId} {fn : Func} {args : List Value} (hf : P.funcs[f]? = some fn) (hb : fn.body = some c) (hn : fn.ntmps = n) (hl : args.length ≤ n)
    (h : W P n c (fun e T' M' => isEnd e ∧ List.Sublist M M' ∧ ResV P n fn T' M' v) (params 0 args) M) : Pure P f args M v := fun w hm =>
  (con_of_W (R := fun u M' => u = v ∧ M' = M) hf hb hn hl (W_mono h fun e T' M' ⟨h1, h2, h3⟩ => ⟨h1, v, M, h3, h2, rfl, rfl⟩) w hm).mono
    fun e w' ⟨u, M', h1, h2, h3, h4, h5⟩ => by subst h4; subst h5; exact ⟨h1, h2, h3⟩

theorem ResV_tmp {fn : Func} {t : Nat} (h : fn.results = #[.tmp t]) (hv : lk T t = some v) : ResV P n fn T M v := fun a w hk hm => by
  have := hk.2.2 t v hv
  rw [results_tmp h]
  simp [Array.getD_eq_getD_getElem?, this]
theorem ResV_none {fn : Func} (h : fn.results = #[]) : ResV P n fn T M (.tuple #[]) := fun a w hk hm => results_none h _ _ _
theorem ResV_tmp2 {fn : Func} {t u : Nat} {v1 v2 : Value} (h : fn.results = #[.tmp t, .tmp u]) (hv : lk T t = some v1) (hv2 : lk T u = some v2) : ResV P n fn T M (.tuple #[v1, v2]) := fun a w hk hm => by
  have h1 := hk.2.2 t v1 hv
  have h2 := hk.2.2 u v2 hv2
  rw [results_tmp2 h]
  simp [Array.getD_eq_getD_getElem?, h1, h2]
end
end Go.Kw
set_option linter.unusedVariables false
set_option linter.unusedSimpArgs false
namespace Go.Kw
section
variable {P : Program} {n : Nat} {T : Tm} {M : List Fact} {o : Oper} {v : Value} {x y z : Operand}

/-- What the operation's own program text yields, at known operands: a value, the world unchanged. -/
theorem ov_run (h : ∀ a w, Knows n T a → Mem M w → (execOp a.eval o).run P w = .ok (.value v) w) : OpX P n o T M v := h

theorem ov_move (ho : o.op = .move x) (hx : look T x = some v) : OpX P n o T M v := ov_run fun a w hk hm => by
  unfold execOp; simp only [ho, hk.eval hx]; rfl
theorem ov_assign (ho : o.op = .assign x) (hx : look T x = some v) : OpX P n o T M v := ov_run fun a w hk hm => by
  unfold execOp; simp only [ho, hk.eval hx]; rfl

theorem ov_pick {b : Bool} {v1 v2 : Value} (ho : o.op = .pick x y z) (hx : look T x = some (.bool b)) (hy : look T y = some v1) (hz : look T z = some v2) (hv : (bif b then v1 else v2) = v) : OpX P n o T M v := ov_run fun a w hk hm => by
  unfold execOp
  simp only [ho, hk.eval hx, hk.eval hy, hk.eval hz, asBool, ← hv]
  cases b <;> simp
/-- a && b: the second operand was asked for if the first held. -/
theorem ov_and {b g c : Bool} (ho : o.op = .pick x y z) (hx : look T x = some (.bool b)) (hy : look T y = some (gv g (.bool c))) (hz : look T z = some (.bool false)) (hg : b = true → g = true) : OpX P n o T M (.bool (b && c)) :=
  ov_pick ho hx hy hz (by cases b; · rfl
                          · rw [hg rfl]; rfl)
theorem ov_or {b g c : Bool} (ho : o.op = .pick x y z) (hx : look T x = some (.bool b)) (hy : look T y = some (.bool true)) (hz : look T z = some (gv g (.bool c))) (hg : b = false → g = true) : OpX P n o T M (.bool (b || c)) :=
  ov_pick ho hx hy hz (by cases b; · rw [hg rfl]; rfl
                          · rfl)

theorem look_gv {g : Bool} {u : Value} (h : look T x = some (gv g u)) (hg : g = true) : look T x = some u := by rw [h, hg]; rfl

/-! integers -/
def arith : BinOp → Int → Int → Int
  | .add, a, b => a + b
  | .sub, a, b => a - b
  | _, a, b => a * b

theorem ov_arith {op : BinOp} {k : IntKind} {a b : Int} {t1 t2 : TypeId} (ho : o.op = .binOp op t1 x y t2) (hop : op = .add ∨ op = .sub ∨ op = .mul)
    (hx : look T x = some (.int k a)) (hy : look T y = some (.int k b)) : OpX P n o T M (.int k (k.wrap (arith op a b))) := ov_run fun c w hk hm => by
  unfold execOp
  simp only [ho, hk.eval hx, hk.eval hy]
  rcases hop with rfl | rfl | rfl <;> simp [eqGuard, binOp, Op.intArith, arith]

theorem wrap_i64 {a : Int} (h : -9223372036854775808 ≤ a ∧ a ≤ 9223372036854775807) : IntKind.i64.wrap a = a := by
  simp [IntKind.wrap, IntKind.bits, IntKind.signed]; omega
def rng : IntKind → Int → Prop
  | .i64, a => -9223372036854775808 ≤ a ∧ a ≤ 9223372036854775807
  | .i8, a => -128 ≤ a ∧ a ≤ 127
  | .u8, a => 0 ≤ a ∧ a ≤ 255
  | .i32, a => -2147483648 ≤ a ∧ a ≤ 2147483647
  | .u32, a => 0 ≤ a ∧ a ≤ 4294967295
  | .i16, a => -32768 ≤ a ∧ a ≤ 32767
  | .u16, a => 0 ≤ a ∧ a ≤ 65535
  | .u64, a => 0 ≤ a ∧ a ≤ 18446744073709551615
theorem wrap_rng {k : IntKind} {a : Int} (h : rng k a) : k.wrap a = a := by
  cases k <;> simp [rng] at h <;> simp [IntKind.wrap, IntKind.bits, IntKind.signed] <;> omega

/-- The sum, where it fits. -/
theorem ov_add {k : IntKind} {a b : Int} {t1 t2 : TypeId} (ho : o.op = .binOp .add t1 x y t2) (hx : look T x = some (.int k a)) (hy : look T y = some (.int k b)) (h : rng k (a + b)) : OpX P n o T M (.int k (a + b)) := by
  have := ov_arith (P := P) (n := n) (M := M) ho (.inl rfl) hx hy
  rwa [show k.wrap (arith .add a b) = a + b from wrap_rng h] at this
theorem ov_sub {k : IntKind} {a b : Int} {t1 t2 : TypeId} (ho : o.op = .binOp .sub t1 x y t2) (hx : look T x = some (.int k a)) (hy : look T y = some (.int k b)) (h : rng k (a - b)) : OpX P n o T M (.int k (a - b)) := by
  have := ov_arith (P := P) (n := n) (M := M) ho (.inr (.inl rfl)) hx hy
  rwa [show k.wrap (arith .sub a b) = a - b from wrap_rng h] at this
theorem ov_mul {k : IntKind} {a b : Int} {t1 t2 : TypeId} (ho : o.op = .binOp .mul t1 x y t2) (hx : look T x = some (.int k a)) (hy : look T y = some (.int k b)) (h : rng k (a * b)) : OpX P n o T M (.int k (a * b)) := by
  have := ov_arith (P := P) (n := n) (M := M) ho (.inr (.inr rfl)) hx hy
  rwa [show k.wrap (arith .mul a b) = a * b from wrap_rng h] at this

theorem ov_quo {k : IntKind} {a b : Int} {t1 t2 : TypeId} (ho : o.op = .binOp .quo t1 x y t2) (hx : look T x = some (.int k a)) (hy : look T y = some (.int k b)) (hb : b ≠ 0) : OpX P n o T M (.int k (k.wrap (a.tdiv b))) := ov_run fun c w hk hm => by
  unfold execOp
  simp only [ho, hk.eval hx, hk.eval hy]
  simp [eqGuard, binOp, Op.intDiv, hb]
theorem ov_rem {k : IntKind} {a b : Int} {t1 t2 : TypeId} (ho : o.op = .binOp .rem t1 x y t2) (hx : look T x = some (.int k a)) (hy : look T y = some (.int k b)) (hb : b ≠ 0) : OpX P n o T M (.int k (a.tmod b)) := ov_run fun c w hk hm => by
  unfold execOp
  simp only [ho, hk.eval hx, hk.eval hy]
  simp [eqGuard, binOp, Op.intDiv, hb]
theorem ov_quo_pos {k : IntKind} {a b : Int} {t1 t2 : TypeId} (ho : o.op = .binOp .quo t1 x y t2) (hx : look T x = some (.int k a)) (hy : look T y = some (.int k b)) (ha : 0 ≤ a) (hb : 0 < b) (hr : rng k a) : OpX P n o T M (.int k (a / b)) := by
  have := ov_quo (P := P) (n := n) (M := M) ho hx hy (by omega)
  rw [Int.tdiv_eq_ediv_of_nonneg ha, wrap_rng] at this
  · exact this
  · have h1 := Int.ediv_le_self b ha
    have h2 := Int.ediv_nonneg ha (Int.le_of_lt hb)
    cases k <;> simp [rng] at hr ⊢ <;> omega
theorem ov_rem_pos {k : IntKind} {a b : Int} {t1 t2 : TypeId} (ho : o.op = .binOp .rem t1 x y t2) (hx : look T x = some (.int k a)) (hy : look T y = some (.int k b)) (ha : 0 ≤ a) (hb : 0 < b) : OpX P n o T M (.int k (a % b)) := by
  have := ov_rem (P := P) (n := n) (M := M) ho hx hy (by omega)
  rwa [Int.tmod_eq_emod_of_nonneg ha] at this

theorem ov_lss {k : IntKind} {a b : Int} {t1 t2 : TypeId} (ho : o.op = .binOp .lss t1 x y t2) (hx : look T x = some (.int k a)) (hy : look T y = some (.int k b)) : OpX P n o T M (.bool (decide (a < b))) := ov_run fun c w hk hm => by
  unfold execOp; simp only [ho, hk.eval hx, hk.eval hy]; simp [eqGuard, binOp, Op.intCmp]
theorem ov_leq {k : IntKind} {a b : Int} {t1 t2 : TypeId} (ho : o.op = .binOp .leq t1 x y t2) (hx : look T x = some (.int k a)) (hy : look T y = some (.int k b)) : OpX P n o T M (.bool (decide (a ≤ b))) := ov_run fun c w hk hm => by
  unfold execOp; simp only [ho, hk.eval hx, hk.eval hy]; simp [eqGuard, binOp, Op.intCmp]
theorem ov_gtr {k : IntKind} {a b : Int} {t1 t2 : TypeId} (ho : o.op = .binOp .gtr t1 x y t2) (hx : look T x = some (.int k a)) (hy : look T y = some (.int k b)) : OpX P n o T M (.bool (decide (b < a))) := ov_run fun c w hk hm => by
  unfold execOp; simp only [ho, hk.eval hx, hk.eval hy]; simp [eqGuard, binOp, Op.intCmp]
theorem ov_geq {k : IntKind} {a b : Int} {t1 t2 : TypeId} (ho : o.op = .binOp .geq t1 x y t2) (hx : look T x = some (.int k a)) (hy : look T y = some (.int k b)) : OpX P n o T M (.bool (decide (b ≤ a))) := ov_run fun c w hk hm => by
  unfold execOp; simp only [ho, hk.eval hx, hk.eval hy]; simp [eqGuard, binOp, Op.intCmp]
theorem ov_eql {k : IntKind} {a b : Int} {t1 t2 : TypeId} (ho : o.op = .binOp .eql t1 x y t2) (hx : look T x = some (.int k a)) (hy : look T y = some (.int k b)) : OpX P n o T M (.bool (decide (a = b))) := ov_run fun c w hk hm => by
  unfold execOp; simp only [ho, hk.eval hx, hk.eval hy]; simp [eqGuard, binOp, Op.intCmp]; rfl
theorem ov_neq {k : IntKind} {a b : Int} {t1 t2 : TypeId} (ho : o.op = .binOp .neq t1 x y t2) (hx : look T x = some (.int k a)) (hy : look T y = some (.int k b)) : OpX P n o T M (.bool (!decide (a = b))) := ov_run fun c w hk hm => by
  unfold execOp; simp only [ho, hk.eval hx, hk.eval hy]; simp [eqGuard, binOp, Op.intCmp, bne]; rfl

/-! sets of squares: uint64 as BitVec 64 -/
theorem bits_back (b : BitVec 64) : IntKind.u64.wrap ((b.toNat : Nat) : Int) = (b.toNat : Int) := wrap_rng (by have := b.isLt; simp [rng]; omega)
theorem ofInt_toNat (b : BitVec 64) : BitVec.ofInt 64 ((b.toNat : Nat) : Int) = b := by simp
theorem ov_bits {op : BinOp} {a b r : BitVec 64} {t1 t2 : TypeId} (ho : o.op = .binOp op t1 x y t2) (hx : look T x = some (.int .u64 ((a.toNat : Nat) : Int))) (hy : look T y = some (.int .u64 ((b.toNat : Nat) : Int)))
    (hr : (op = .and ∧ r = a &&& b) ∨ (op = .or ∧ r = a ||| b) ∨ (op = .xor ∧ r = a ^^^ b) ∨ (op = .andNot ∧ r = a &&& ~~~b)) : OpX P n o T M (.int .u64 ((r.toNat : Nat) : Int)) := ov_run fun c w hk hm => by
  unfold execOp
  simp only [ho, hk.eval hx, hk.eval hy]
  have e : ∀ z : BitVec IntKind.u64.bits, IntKind.u64.wrap ((BitVec.toNat z : Nat) : Int) = (BitVec.toNat z : Int) := bits_back
  have f : ∀ z : BitVec 64, BitVec.ofInt IntKind.u64.bits ((z.toNat : Nat) : Int) = z := ofInt_toNat
  rcases hr with ⟨rfl, rfl⟩ | ⟨rfl, rfl⟩ | ⟨rfl, rfl⟩ | ⟨rfl, rfl⟩ <;> simp [eqGuard, binOp, Op.intBits, f, e, -BitVec.toNat_and, -BitVec.toNat_or, -BitVec.toNat_xor, -BitVec.toNat_not] <;> rfl
theorem ov_eql64 {a b : BitVec 64} {t1 t2 : TypeId} (ho : o.op = .binOp .eql t1 x y t2) (hx : look T x = some (.int .u64 ((a.toNat : Nat) : Int))) (hy : look T y = some (.int .u64 ((b.toNat : Nat) : Int))) : OpX P n o T M (.bool (decide (a = b))) := by
  have := ov_eql (P := P) (n := n) (M := M) ho hx hy
  have e : decide (((a.toNat : Nat) : Int) = ((b.toNat : Nat) : Int)) = decide (a = b) := by
    rw [decide_eq_decide, Int.natCast_inj, BitVec.toNat_inj]
  rwa [e] at this
theorem ov_neq64 {a b : BitVec 64} {t1 t2 : TypeId} (ho : o.op = .binOp .neq t1 x y t2) (hx : look T x = some (.int .u64 ((a.toNat : Nat) : Int))) (hy : look T y = some (.int .u64 ((b.toNat : Nat) : Int))) : OpX P n o T M (.bool (!decide (a = b))) := by
  have := ov_neq (P := P) (n := n) (M := M) ho hx hy
  have e : decide (((a.toNat : Nat) : Int) = ((b.toNat : Nat) : Int)) = decide (a = b) := by
    rw [decide_eq_decide, Int.natCast_inj, BitVec.toNat_inj]
  rwa [e] at this
theorem wrap_u64 (a : Int) : IntKind.u64.wrap a = ((BitVec.ofInt 64 a).toNat : Int) := by
  simp [IntKind.wrap, IntKind.bits, IntKind.signed, BitVec.toNat_ofInt]
  omega
theorem ov_arith64 {op : BinOp} {a b r : BitVec 64} {t1 t2 : TypeId} (ho : o.op = .binOp op t1 x y t2) (hx : look T x = some (.int .u64 ((a.toNat : Nat) : Int))) (hy : look T y = some (.int .u64 ((b.toNat : Nat) : Int)))
    (hr : (op = .add ∧ r = a + b) ∨ (op = .sub ∧ r = a - b) ∨ (op = .mul ∧ r = a * b)) : OpX P n o T M (.int .u64 ((r.toNat : Nat) : Int)) := by
  rcases hr with ⟨rfl, rfl⟩ | ⟨rfl, rfl⟩ | ⟨rfl, rfl⟩
  · have := ov_arith (P := P) (n := n) (M := M) ho (.inl rfl) hx hy
    rwa [wrap_u64, show BitVec.ofInt 64 (arith .add (a.toNat : Int) (b.toNat : Int)) = a + b by simp [arith, BitVec.ofInt_add]] at this
  · have := ov_arith (P := P) (n := n) (M := M) ho (.inr (.inl rfl)) hx hy
    rwa [wrap_u64, show BitVec.ofInt 64 (arith .sub (a.toNat : Int) (b.toNat : Int)) = a - b by simp [arith, Int.sub_eq_add_neg, BitVec.ofInt_add, BitVec.ofInt_neg, BitVec.sub_eq_add_neg]] at this
  · have := ov_arith (P := P) (n := n) (M := M) ho (.inr (.inr rfl)) hx hy
    rwa [wrap_u64, show BitVec.ofInt 64 (arith .mul (a.toNat : Int) (b.toNat : Int)) = a * b by simp [arith, BitVec.ofInt_mul]] at this
/-- A shift by an amount that isn't below 0. -/
theorem ov_shl64 {a : BitVec 64} {k : IntKind} {s : Int} {t1 t2 : TypeId} (ho : o.op = .binOp .shl t1 x y t2) (hx : look T x = some (.int .u64 ((a.toNat : Nat) : Int))) (hy : look T y = some (.int k s)) (hs : 0 ≤ s) : OpX P n o T M (.int .u64 (((a <<< s.toNat).toNat : Nat) : Int)) := ov_run fun c w hk hm => by
  unfold execOp
  simp only [ho, hk.eval hx, hk.eval hy]
  have h0 : ¬ s < 0 := by omega
  have e : IntKind.u64.wrap ((a.toNat : Int) * 2 ^ min s.toNat IntKind.u64.bits) = (((a <<< s.toNat).toNat : Nat) : Int) := by
    rw [wrap_u64]
    congr 2
    apply BitVec.eq_of_toNat_eq
    rw [BitVec.toNat_ofInt, BitVec.toNat_shiftLeft, Nat.shiftLeft_eq]
    have hb : IntKind.u64.bits = 64 := rfl
    rw [hb]
    rcases Nat.lt_or_ge s.toNat 64 with h | h
    · rw [Nat.min_eq_left (by omega)]
      have : ((a.toNat : Int) * 2 ^ s.toNat) = ((a.toNat * 2 ^ s.toNat : Nat) : Int) := by simp
      rw [this]
      omega
    · rw [Nat.min_eq_right h]
      have h1 : a.toNat * 2 ^ s.toNat % 2 ^ 64 = 0 := by
        rw [show s.toNat = 64 + (s.toNat - 64) by omega, Nat.pow_add, ← Nat.mul_assoc, Nat.mul_right_comm]
        exact Nat.mul_mod_left _ _
      rw [h1]
      have : ((a.toNat : Int) * 2 ^ 64) = ((a.toNat * 2 ^ 64 : Nat) : Int) := by simp
      rw [this]
      omega
  simp [eqGuard, binOp, Op.shift, h0, e]
theorem ov_shr64 {a : BitVec 64} {k : IntKind} {s : Int} {t1 t2 : TypeId} (ho : o.op = .binOp .shr t1 x y t2) (hx : look T x = some (.int .u64 ((a.toNat : Nat) : Int))) (hy : look T y = some (.int k s)) (hs : 0 ≤ s) : OpX P n o T M (.int .u64 (((a >>> s.toNat).toNat : Nat) : Int)) := ov_run fun c w hk hm => by
  unfold execOp
  simp only [ho, hk.eval hx, hk.eval hy]
  have h0 : ¬ s < 0 := by omega
  have e : Int.fdiv (a.toNat : Int) (2 ^ min s.toNat IntKind.u64.bits) = (((a >>> s.toNat).toNat : Nat) : Int) := by
    rw [BitVec.toNat_ushiftRight, Nat.shiftRight_eq_div_pow]
    have hb : IntKind.u64.bits = 64 := rfl
    rw [hb, Int.fdiv_eq_ediv_of_nonneg _ (by exact_mod_cast Nat.zero_le _)]
    rcases Nat.lt_or_ge s.toNat 64 with h | h
    · rw [Nat.min_eq_left (by omega)]
      simp
    · rw [Nat.min_eq_right h]
      have h1 : a.toNat / 2 ^ s.toNat = 0 := Nat.div_eq_of_lt (Nat.lt_of_lt_of_le a.isLt (Nat.pow_le_pow_right (by omega) h))
      rw [h1]
      have := a.isLt
      omega
  simp [eqGuard, binOp, Op.shift, h0, e]
theorem ov_not {b : Bool} {t1 : TypeId} (ho : o.op = .unOp .not t1 x) (hx : look T x = some (.bool b)) : OpX P n o T M (.bool (!b)) := ov_run fun c w hk hm => by
  unfold execOp; simp only [ho, hk.eval hx]; simp [Op.unary]
theorem ov_neg {k : IntKind} {a : Int} {t1 : TypeId} (ho : o.op = .unOp .neg t1 x) (hx : look T x = some (.int k a)) (h : rng k (-a)) : OpX P n o T M (.int k (-a)) := ov_run fun c w hk hm => by
  unfold execOp; simp only [ho, hk.eval hx]
  have : k.wrap (0 - a) = -a := by rw [Int.zero_sub]; exact wrap_rng h
  rw [Int.zero_sub] at this
  simp [Op.unary, Op.intArith, this]
theorem ov_negw {k : IntKind} {a : Int} {t1 : TypeId} (ho : o.op = .unOp .neg t1 x) (hx : look T x = some (.int k a)) : OpX P n o T M (.int k (k.wrap (-a))) := ov_run fun c w hk hm => by
  unfold execOp; simp only [ho, hk.eval hx]
  simp [Op.unary, Op.intArith]
theorem ov_compl64 {a : BitVec 64} {t1 : TypeId} (ho : o.op = .unOp .xor t1 x) (hx : look T x = some (.int .u64 ((a.toNat : Nat) : Int))) : OpX P n o T M (.int .u64 (((~~~a).toNat : Nat) : Int)) := ov_run fun c w hk hm => by
  unfold execOp; simp only [ho, hk.eval hx]
  have e : ∀ z : BitVec IntKind.u64.bits, IntKind.u64.wrap ((BitVec.toNat z : Nat) : Int) = (BitVec.toNat z : Int) := bits_back
  have f : ∀ z : BitVec 64, BitVec.ofInt IntKind.u64.bits ((z.toNat : Nat) : Int) = z := ofInt_toNat
  have m : BitVec.ofInt IntKind.u64.bits IntKind.u64.max = (BitVec.allOnes 64 : BitVec IntKind.u64.bits) := rfl
  simp [Op.unary, Op.intBits, f, e, m, IntKind.signed, -BitVec.toNat_xor, -BitVec.toNat_not]
  exact congrArg (fun b : BitVec 64 => (b.toNat : Int)) (BitVec.allOnes_xor (x := a))

/-! conversions -/
theorem ov_conv {k k' : IntKind} {a : Int} {t1 t2 : TypeId} {d1 : TypeDesc} (ho : o.op = .convert t1 t2 x) (hx : look T x = some (.int k a)) (h1 : P.underlying t1 = some d1) (h2 : P.underlying t2 = some (.int k')) : OpX P n o T M (.int k' (k'.wrap a)) := ov_run fun c w hk hm => by
  unfold execOp; simp only [ho, hk.eval hx]
  simp [convert, run_underlying h1, run_underlying h2, Conv.intToInt]
theorem ov_convn {k k' : IntKind} {a : Int} {t1 t2 : TypeId} {d1 : TypeDesc} (ho : o.op = .convert t1 t2 x) (hx : look T x = some (.int k a)) (h1 : P.underlying t1 = some d1) (h2 : P.underlying t2 = some (.int k')) (h : rng k' a) : OpX P n o T M (.int k' a) := by
  have := ov_conv (n := n) (M := M) ho hx h1 h2
  rwa [wrap_rng h] at this
theorem ov_conv64 {k : IntKind} {a : Int} {t1 t2 : TypeId} {d1 : TypeDesc} (ho : o.op = .convert t1 t2 x) (hx : look T x = some (.int k a)) (h1 : P.underlying t1 = some d1) (h2 : P.underlying t2 = some (.int .u64)) : OpX P n o T M (.int .u64 (((BitVec.ofInt 64 a).toNat : Nat) : Int)) := by
  have := ov_conv (n := n) (M := M) ho hx h1 h2
  rwa [wrap_u64] at this

theorem ov_nilptr {ad : Addr} (ho : o.op = .nilCheck x) (hx : look T x = some (.pointer (some ad))) : OpX P n o T M (.pointer (some ad)) := ov_run fun c w hk hm => by
  unfold execOp; simp only [ho, hk.eval hx]; rfl
theorem ov_makeFunc {f : FuncId} {l1 l2 : List Operand} {v1 v2 : List Value} (ho : o.op = .makeFunc (.func f) l1.toArray l2.toArray) (h1 : looks T l1 = some v1) (h2 : looks T l2 = some v2) : OpX P n o T M (.func (.func f) v1.toArray v2.toArray) := ov_run fun c w hk hm => by
  unfold execOp; simp only [ho]
  simp [Instr.makeFunc, hk.evals h1, hk.evals h2]
theorem ov_extract {vs : Array Value} {i : Nat} (ho : o.op = .extract x i) (hx : look T x = some (.tuple vs)) (hv : vs[i]? = some v) : OpX P n o T M v := ov_run fun c w hk hm => by
  unfold execOp; simp only [ho, hk.eval hx]
  simp [Instr.extract, hv]

/-! calls -/
theorem run_call {a : Act} {w : World} {f : FuncId} {l : List Operand} {ts : Array TypeId} {fx : Operand} {v0 v1 v2 : List Value} (hk : Knows n T a) (ho : o.op = .call { callee := .value fx, args := l.toArray, argTypes := ts })
    (hf : look T fx = some (.func (.func f) v0.toArray v2.toArray)) (ha : looks T l = some v1) (hc : ∀ as w, (callFunc f as).run P w = .ok (.enter f as) w) :
    (execOp a.eval o).run P w = .ok (.enter f (v0 ++ v1 ++ v2).toArray) w := by
  unfold execOp
  simp only [ho]
  simp [resolve, Deferred.ofValue, invoke, hk.eval hf, hk.evals ha, hc]
theorem ov_call {f : FuncId} {l : List Operand} {ts : Array TypeId} {fx : Operand} {v0 v1 v2 : List Value} (ho : o.op = .call { callee := .value fx, args := l.toArray, argTypes := ts })
    (hf : look T fx = some (.func (.func f) v0.toArray v2.toArray)) (ha : looks T l = some v1) (hc : ∀ as w, (callFunc f as).run P w = .ok (.enter f as) w) (hp : Pure P f (v0 ++ v1 ++ v2) M v) : OpV P n o T M v := fun a w hk hm => by
  rw [run_call hk ho hf ha hc]
  exact ⟨rfl, hp w hm⟩
theorem ol_call {f : FuncId} {l : List Operand} {ts : Array TypeId} {fx : Operand} {v0 v1 v2 : List Value} {R : Value → List Fact → Prop} (ho : o.op = .call { callee := .value fx, args := l.toArray, argTypes := ts })
    (hf : look T fx = some (.func (.func f) v0.toArray v2.toArray)) (ha : looks T l = some v1) (hc : ∀ as w, (callFunc f as).run P w = .ok (.enter f as) w) (hp : Con P f (v0 ++ v1 ++ v2) M R) : OpL P n o T M R := fun a w hk hm next Q' hn => by
  unfold Oper.wp
  rw [run_call hk ho hf ha hc, Oper.upon_enter]
  refine (hp w hm).mono fun e w' ⟨v, M', h1, h2, h3, h4⟩ => ?_
  subst h1
  exact hn v M' w' h2 h3 h4
end
end Go.Kw
set_option linter.unusedVariables false
set_option linter.unusedSimpArgs false
namespace Go.Kw

structure TyOK (P : Program) (tid : TypeId) (t : Ty) : Prop where
  agg : ∀ w, (isAgg tid).run P w = .ok t.isAgg w
  size : ∀ w, (sizeOf tid).run P w = .ok t.size w
  zero : ∀ w, (zeroValue tid).run P w = .ok (enc t (zero t)) w

theorem enc_cells (t : Ty) (x : El t) : (enc t x).cells = (cells t x).toArray := by
  cases t
  case fn => exact (match x with | none => rfl | some (f, a, b) => rfl : (encFn x).cells = [encFn x].toArray)
  all_goals rfl
theorem enc_agg (t : Ty) (x : El t) (h : t.isAgg = true) : enc t x = .agg (cells t x).toArray := by
  cases t <;> first | rfl | cases h
theorem enc_one (t : Ty) (x : El t) (h : t.isAgg = false) : cells t x = [enc t x] := by
  cases t <;> first | rfl | cases h

mutual
theorem cells_one : (t : Ty) → (x : El t) → ∀ v ∈ cells t x, v.oneCell' = true
  | .int _, _, v, h => by simp [cells] at h; subst h; rfl
  | .bool, _, v, h => by simp [cells] at h; subst h; rfl
  | .str, _, v, h => by simp [cells] at h; subst h; rfl
  | .fn, x, v, h => by
    simp [cells] at h; subst h
    show (encFn x).oneCell' = true
    cases x <;> rfl
  | .st fs, x, v, h => cellss_one fs x v h
  | .ar _ t, xs, v, h => by
    have h' : v ∈ List.flatMap (cells t) (show List (El t) from xs) := h
    obtain ⟨y, _, hy⟩ := List.mem_flatMap.1 h'
    exact cells_one t y v hy
theorem cellss_one : (fs : List Ty) → (x : Els fs) → ∀ v ∈ cellss fs x, v.oneCell' = true
  | [], _, v, h => by simp [cellss] at h
  | t :: fs, x, v, h => by
    have h' : v ∈ cells t x.1 ++ cellss fs x.2 := h
    rcases List.mem_append.1 h' with h' | h'
    · exact cells_one t x.1 v h'
    · exact cellss_one fs x.2 v h'
end

/-! normal forms of what is read -/
def encq : (t : Ty) → El t → Option Value
  | .int .u64, (b : BitVec 64) => some (.int .u64 (b.toNat : Int))
  | .int .i8, n => some (.int .i8 n) | .int .i16, n => some (.int .i16 n) | .int .i32, n => some (.int .i32 n) | .int .i64, n => some (.int .i64 n)
  | .int .u8, n => some (.int .u8 n) | .int .u16, n => some (.int .u16 n) | .int .u32, n => some (.int .u32 n)
  | .bool, b => some (.bool b)
  | .str, s => some (.string s)
  | .fn, f => some (encFn f)
  | .st fs, x => some (enc (.st fs) x)
  | .ar n t, x => some (enc (.ar n t) x)
theorem encq_eq {t : Ty} {x : El t} {v : Value} (h : encq t x = some v) : enc t x = v := by
  cases t with
  | int k => cases k <;> exact Option.some.inj h
  | _ => exact Option.some.inj h

def fieldq : (fs : List Ty) → Els fs → Nat → Option (Sigma El)
  | [], _, _ => none
  | t :: _, x, 0 => some ⟨t, x.1⟩
  | _ :: fs, x, j + 1 => fieldq fs x.2 j
def stepq : (t : Ty) → El t → PS → Option (Sigma El)
  | .st fs, x, .fld j => fieldq fs x j
  | .ar _ t, xs, .idx i => some ⟨t, List.getD xs i (zero t)⟩
  | _, _, _ => none
def getq (t : Ty) (x : El t) : List PS → Option (Sigma El)
  | [] => some ⟨t, x⟩
  | s :: p => match getq t x p with
    | some ⟨t', x'⟩ => stepq t' x' s
    | none => none

theorem fieldq_eq : (fs : List Ty) → (x : Els fs) → (j : Nat) → (r : Sigma El) → fieldq fs x j = some r → j < fs.length ∧ r = ⟨fget fs j, fproj fs x j⟩
  | [], _, _, r, h => by simp [fieldq] at h
  | t :: fs, x, 0, r, h => ⟨by simp, (Option.some.inj h).symm⟩
  | t :: fs, x, j + 1, r, h => by
    have := fieldq_eq fs x.2 j r h
    exact ⟨by simpa using this.1, this.2⟩
theorem stepq_eq (t : Ty) (x : El t) (s : PS) (r : Sigma El) (h : stepq t x s = some r) : r = ⟨tyStep t s, getStep t x s⟩ := by
  cases t with
  | st fs => cases s with
    | fld j => exact (fieldq_eq fs x j r h).2
    | idx i => cases h
  | ar n t => cases s with
    | fld j => cases h
    | idx i => exact (Option.some.inj h).symm
  | int k => cases h
  | bool => cases h
  | str => cases h
  | fn => cases h
theorem getq_eq (t : Ty) (x : El t) : (p : List PS) → (r : Sigma El) → getq t x p = some r → r = ⟨TyAt t p, getp t x p⟩
  | [], r, h => (Option.some.inj h).symm
  | s :: p, r, h => by
    unfold getq at h
    cases hq : getq t x p with
    | none => rw [hq] at h; cases h
    | some q =>
      have hq' := getq_eq t x p q hq
      subst hq'
      rw [hq] at h
      exact stepq_eq _ _ s r h

def ptrv (b : Nat) (t : Ty) (p : List PS) : Value := .pointer (some ⟨b, offp t p, none⟩)
theorem add_lit (b o k : Nat) : (⟨b, o, none⟩ : Addr).add k = ⟨b, o + k, none⟩ := by
  unfold Addr.add; split <;> simp_all

def FA (P : Program) (tid : TypeId) (j off : Nat) : Prop := ∀ a w, (Instr.fieldAt tid (.pointer (some a)) j).run P w = .ok (.pointer (some (a.add off))) w

section
variable {P : Program} {n : Nat} {T : Tm} {M : List Fact} {o : Oper} {v : Value} {x y z : Operand} {b tid tidb : Nat} {t : Ty} {p : List PS}

theorem ov_fieldAddr {j off : Nat} (ho : o.op = .fieldAddr tid x j) (hx : look T x = some (ptrv b t p)) (hf : FA P tid j off) (he : offStep (TyAt t p) (.fld j) = off) : OpX P n o T M (ptrv b t (.fld j :: p)) := ov_run fun a w hk hm => by
  unfold execOp; simp only [ho, hk.eval hx]
  have := hf ⟨b, offp t p, none⟩ w
  simp only [ptrv, Sem.run_bind, this, Result.andThen_ok, add_lit, Sem.run_pure, offp, he]

theorem ov_indexAddr {ix : Int} {k : IntKind} {m : Nat} {e : TypeId} {t' : Ty} (ho : o.op = .indexAddr tid x y) (hx : look T x = some (ptrv b t p)) (hy : look T y = some (.int k ix))
    (hu : P.underlying tid = some (.array m e)) (ht : TyAt t p = .ar m t') (hs : ∀ w, (sizeOf e).run P w = .ok t'.size w) (h0 : 0 ≤ ix) (h1 : ix < m) : OpX P n o T M (ptrv b t (.idx ix.toNat :: p)) := ov_run fun a w hk hm => by
  unfold execOp; simp only [ho, hk.eval hx, hk.eval hy]
  simp [ptrv, Instr.indexAt, run_underlying hu, Instr.sureAddr, asIntOf, h0, h1, hs, add_lit, offp, ht, offStep]

/-- A list stands in memory. -/
def HasList (M : List Fact) (v : Value) (t : Ty) (xs : List (El t)) : Prop := ∀ w, Mem M w → isList w.heap v t xs
theorem hl_lst {xs : List (El t)} (h : Fact.lst v t xs ∈ M) : HasList M v t xs := fun w hm => hm.all _ h
theorem hl_row {xs : List (El t)} (h : Fact.row v tid t xs ∈ M) : HasList M v t xs := fun w hm => by
  have hr : isRow w.heap v tid t xs := hm.all _ h
  refine ⟨hr.1, ?_⟩
  rcases hr.2 with h0 | ⟨g, cap, cur, rfl, hg, _, _, _, ht⟩
  · exact .inl h0
  · exact .inr ⟨g, 0, cap, cur, tid, _, rfl, hg, by rw [List.drop_zero]; exact ht⟩
theorem hl_nil : HasList M (.slice none 0 0) t [] := fun w hm => ⟨by simp, .inl ⟨rfl, rfl⟩⟩

def eptrv (v : Value) (t : Ty) (i : Nat) (p : List PS) : Value :=
  match v with
  | .slice (some a) _ _ => .pointer (some ⟨a.block, a.off + i * t.size + offp t p, none⟩)
  | _ => undef

theorem ov_indexAddr_sl {xs : List (El t)} {ix : Int} {k : IntKind} {e : TypeId} (ho : o.op = .indexAddr tid x y) (hx : look T x = some v) (hl : HasList M v t xs) (hy : look T y = some (.int k ix))
    (hu : P.underlying tid = some (.slice e)) (hs : ∀ w, (sizeOf e).run P w = .ok t.size w) (h0 : 0 ≤ ix) (h1 : ix < xs.length) : OpX P n o T M (eptrv v t ix.toNat []) := ov_run fun a w hk hm => by
  unfold execOp; simp only [ho, hk.eval hx, hk.eval hy]
  rcases (hl w hm).2 with ⟨_, rfl⟩ | ⟨b, off, cap, cs, tid', fr, rfl, hg, hr⟩
  · simp at h1; omega
  · simp [eptrv, Instr.indexAt, run_underlying hu, asIntOf, h0, h1, hs, add_lit, offp]

theorem ov_fieldAddr_e {xs : List (El t)} {i j off : Nat} (ho : o.op = .fieldAddr tid x j) (hx : look T x = some (eptrv v t i p)) (hl : HasList M v t xs) (hi : i < xs.length) (hf : FA P tid j off) (he : offStep (TyAt t p) (.fld j) = off) : OpX P n o T M (eptrv v t i (.fld j :: p)) := ov_run fun a w hk hm => by
  unfold execOp; simp only [ho, hk.eval hx]
  rcases (hl w hm).2 with ⟨_, rfl⟩ | ⟨b, off', cap, cs, tid', fr, rfl, hg, hr⟩
  · simp at hi
  · have := hf ⟨b, off' + i * t.size + offp t p, none⟩ w
    simp only [eptrv, Sem.run_bind, this, Result.andThen_ok, add_lit, Sem.run_pure, offp, he]
    rw [Nat.add_assoc (off' + i * t.size)]

/-- Reading a variable of type t' that stands at an offset of a row. -/
theorem run_loadVar_at {w : World} {g off : Nat} {cs : Array Value} {ty : TypeId} {fr : Nat × Nat} {t' : Ty} {u : El t'} (hg : w.heap[g]? = some (.cells cs ty fr)) (hw : wf t' u)
    (hc : (cs.toList.drop off).take t'.size = cells t' u) (hty : TyOK P tid t') : (loadVar tid ⟨g, off, none⟩).run P w = .ok (enc t' u) w := by
  have hlen := cells_length t' u hw
  have hcell : ∀ j c, (cells t' u)[j]? = some c → w.cell? (⟨g, off + j, none⟩ : Addr) = some c := by
    intro j c hj
    rw [cell_of_row w g (off + j) cs ty fr hg]
    rw [← hc, List.getElem?_take] at hj
    split at hj
    · rw [List.getElem?_drop] at hj; simpa using hj
    · cases hj
  cases hag : t'.isAgg with
  | true =>
    have hl : (loadCells ⟨g, off, none⟩ (cells t' u).length).run P w = .ok (cells t' u).toArray w :=
      run_loadCells_list (P := P) w ⟨g, off, none⟩ (cells t' u) (fun j c hj => by rw [add_lit]; exact hcell j c hj)
    rw [hlen] at hl
    simp [loadVar, Sem.run_bind, hty.agg w, hag, hty.size w, hl, enc_agg t' u hag]
  | false =>
    have h1 := enc_one t' u hag
    have h0 := hcell 0 (enc t' u) (by rw [h1]; rfl)
    simp only [Nat.add_zero] at h0
    simp [loadVar, Sem.run_bind, hty.agg w, hag, h0]

theorem ov_load {X : El t} {t' : Ty} {u : El t'} (ho : o.op = .load tid x) (hx : look T x = some (ptrv b t p)) (hm : Fact.box b tidb t X ∈ M) (hok : okp t p) (hq : getq t X p = some ⟨t', u⟩) (hv : encq t' u = some v) (hty : TyOK P tid t') : OpX P n o T M v := ov_run fun a w hk hmm => by
  have hb : w.heap[b]? = some (.cells (cells t X).toArray tidb (0, 0)) ∧ wf t X := hmm.all _ hm
  have he := getq_eq t X p _ hq
  cases he
  obtain ⟨h1, h2, h3, h4⟩ := path_spec t X hb.2 p hok
  have hr := run_loadVar_at (P := P) (tid := tid) (off := offp t p) hb.1 h1 (by simpa using h3) hty
  unfold execOp; simp only [ho, hk.eval hx]
  simp only [Instr.loadAt, ptrv, Instr.sureAddr, Sem.run_bind, Sem.run_pure, Result.andThen_ok, hr, encq_eq hv]

theorem ov_loadc {X : El t} {t' : Ty} {u : El t'} (ho : o.op = .load tid x) (hx : look T x = some (ptrv b t p)) (hm : Fact.con b tidb t X ∈ M) (hok : okp t p) (hq : getq t X p = some ⟨t', u⟩) (hv : encq t' u = some v) (hty : TyOK P tid t') : OpX P n o T M v := ov_run fun a w hk hmm => by
  have hb : (∃ fr, w.heap[b]? = some (.cells (cells t X).toArray tidb fr)) ∧ wf t X := hmm.all _ hm
  obtain ⟨⟨fr, hb1⟩, hb2⟩ := hb
  have he := getq_eq t X p _ hq
  cases he
  obtain ⟨h1, h2, h3, h4⟩ := path_spec t X hb2 p hok
  have hr := run_loadVar_at (P := P) (tid := tid) (off := offp t p) hb1 h1 (by simpa using h3) hty
  unfold execOp; simp only [ho, hk.eval hx]
  simp only [Instr.loadAt, ptrv, Instr.sureAddr, Sem.run_bind, Sem.run_pure, Result.andThen_ok, hr, encq_eq hv]

theorem ov_load1 {u : Value} (ho : o.op = .load tid x) (hx : look T x = some (.pointer (some ⟨b, 0, none⟩))) (hm : Fact.one b tidb u ∈ M) (ha : ∀ w, (isAgg tid).run P w = .ok false w) : OpX P n o T M u := ov_run fun a w hk hmm => by
  have hb : w.heap[b]? = some (.cells #[u] tidb (0, 0)) ∧ u.oneCell' = true := hmm.all _ hm
  have hc : w.cell? ⟨b, 0, none⟩ = some u := by simp [World.cell?, hb.1]
  unfold execOp; simp only [ho, hk.eval hx]
  simp [Instr.loadAt, Instr.sureAddr, loadVar, ha w, hc]

theorem ov_load_e {xs : List (El t)} {i : Nat} {t' : Ty} {u : El t'} (ho : o.op = .load tid x) (hx : look T x = some (eptrv v t i p)) (hl : HasList M v t xs) (hi : i < xs.length) (hok : okp t p) {r : Value}
    (hq : getq t (xs.getD i (zero t)) p = some ⟨t', u⟩) (hv : encq t' u = some r) (hty : TyOK P tid t') : OpX P n o T M r := ov_run fun a w hk hmm => by
  have he := getq_eq t _ p _ hq
  cases he
  have hlist := hl w hmm
  rcases hlist.2 with ⟨_, rfl⟩ | ⟨b, off, cap, cs, tid', fr, rfl, hg, hr⟩
  · simp at hi
  · obtain ⟨g1, g2, g3, _⟩ := flat_elem (zero t) xs hlist.1 i hi
    obtain ⟨h1, h2, h3, _⟩ := path_spec t (xs.getD i (zero t)) g1 p hok
    have e : ((cs.toList.drop (off + i * t.size + offp t p)).take (TyAt t p).size) = cells (TyAt t p) (getp t (xs.getD i (zero t)) p) := by
      rw [← h3, ← g3]
      unfold flatl at hr
      rw [← hr, List.drop_take, List.drop_take, List.take_take, List.drop_take, List.take_take, List.drop_drop, List.drop_drop]
      congr 1
      · omega
      · rw [Nat.add_assoc]
    have hrun := run_loadVar_at (P := P) (tid := tid) hg h1 e hty
    unfold execOp; simp only [ho, hk.eval hx]
    simp only [Instr.loadAt, eptrv, Instr.sureAddr, Sem.run_bind, Sem.run_pure, Result.andThen_ok, hrun, encq_eq hv]

theorem ov_len {xs : List (El t)} {t1 e : TypeId} (ho : o.op = .call { callee := .builtin .len, args := #[x], argTypes := #[t1] }) (hx : look T x = some v) (hl : HasList M v t xs) (hu : P.underlying t1 = some (.slice e)) : OpX P n o T M (.int .i64 xs.length) := ov_run fun a w hk hmm => by
  unfold execOp
  simp only [ho]
  rcases (hl w hmm).2 with ⟨rfl, rfl⟩ | ⟨b, off, cap, cs, tid', fr, rfl, hg, hr⟩ <;>
    simp [resolve, invoke, builtin, Builtin.len_, hk.eval hx, run_underlying hu, goInt]
/-! fields and elements of values -/
theorem run_part {cs : List Value} {off : Nat} {t' : Ty} {u : El t'} {w : World} (hty : TyOK P tid t') (hw : wf t' u) (hc : (cs.drop off).take t'.size = cells t' u) : (part tid cs.toArray off).run P w = .ok (enc t' u) w := by
  have hlen := cells_length t' u hw
  cases hag : t'.isAgg with
  | true =>
    have e : (cs.toArray.extract off (off + t'.size)) = (cells t' u).toArray := by
      rw [← hc]
      apply Array.ext'
      simp [List.extract_eq_take_drop]
    simp only [part, Sem.run_bind, hty.agg w, hag, hty.size w, Result.andThen_ok, if_true, Sem.run_pure, enc_agg t' u hag, e]
  | false =>
    have h1 := enc_one t' u hag
    have : cs[off]? = some (enc t' u) := by
      have h2 : ((cs.drop off).take t'.size)[0]? = some (enc t' u) := by rw [hc, h1]; rfl
      rw [List.getElem?_take] at h2
      split at h2
      · simpa using h2
      · cases h2
    simp [part, hty.agg w, hag, this]

theorem ov_field {X : El t} {j : Nat} {t' : Ty} {u : El t'} {fs : Array Field} {f : Field} (ho : o.op = .field tid x j) (hx : look T x = some (enc t X)) (hw : wf t X) (hag : t.isAgg = true) (hu : P.underlying tid = some (.struct fs)) (hf : fs[j]? = some f)
    (hok : okStep t (.fld j)) (hoff : f.offset = offStep t (.fld j)) (hq : stepq t X (.fld j) = some ⟨t', u⟩) (hv : encq t' u = some v) (hty : TyOK P f.type t') : OpX P n o T M v := ov_run fun a w hk hmm => by
  have he := stepq_eq t X _ _ hq
  cases he
  obtain ⟨h1, h2, h3, _⟩ := step_spec t X hw (.fld j) hok
  have hr := run_part (P := P) (tid := f.type) (w := w) hty h1 h3
  rw [← hoff] at hr
  unfold execOp; simp only [ho, hk.eval hx, enc_agg t X hag]
  simp [Instr.field, run_underlying hu, hf, asAgg, hr, encq_eq hv]

theorem ov_index {X : El t} {ix : Int} {k : IntKind} {m : Nat} {e : TypeId} {t' : Ty} {u : El t'} (ho : o.op = .index tid x y) (hx : look T x = some (enc t X)) (hw : wf t X) (hag : t.isAgg = true) (hy : look T y = some (.int k ix)) (hu : P.underlying tid = some (.array m e))
    (h0 : 0 ≤ ix) (h1 : ix < m) (hok : okStep t (.idx ix.toNat)) (hq : stepq t X (.idx ix.toNat) = some ⟨t', u⟩) (hoff : offStep t (.idx ix.toNat) = ix.toNat * t'.size) (hv : encq t' u = some v) (hty : TyOK P e t') : OpX P n o T M v := ov_run fun a w hk hmm => by
  have he := stepq_eq t X _ _ hq
  cases he
  obtain ⟨g1, g2, g3, _⟩ := step_spec t X hw (.idx ix.toNat) hok
  have hr := run_part (P := P) (tid := e) (w := w) hty g1 g3
  rw [hoff] at hr
  unfold execOp; simp only [ho, hk.eval hx, hk.eval hy, enc_agg t X hag]
  simp [Instr.index, run_underlying hu, asIntOf, h0, h1, hty.size w, hr, encq_eq hv]

/-! boxes -/
theorem cells_enc_arr (t : Ty) (X : El t) : (enc t X).cells = (cells t X).toArray := enc_cells t X
theorem new_box {w : World} (hm : Mem M w) (tid : Nat) (X : El t) (hw : wf t X) :
    Mem (.box w.heap.size tid t X :: M) (w.alloc (.cells (cells t X).toArray tid)) ∧ Step M w (.box w.heap.size tid t X :: M) (w.alloc (.cells (cells t X).toArray tid)) := by
  have hsz : w.heap.size ≤ (w.alloc (.cells (cells t X).toArray tid)).heap.size := by simp
  have hsame : ∀ b, b < w.heap.size → (w.alloc (.cells (cells t X).toArray tid)).heap[b]? = w.heap[b]? := fun b hb => heap_alloc_old w _ hb
  refine ⟨hm.cons hsz hsame ⟨heap_alloc_new w _, hw⟩ (by simp [Fact.mut]) (by simp [Fact.mut]) (by simp [Fact.imm]), Step.cons hsz hsame (by simp [Fact.mut]) (by simp [Fact.imm]) rfl rfl rfl⟩

theorem ol_box {X : El t} {R : Value → List Fact → Prop} (ho : o.op = .box tid x) (hx : look T x = some v) (hv : encq t X = some v) (hw : wf t X) (h : ∀ b, R (ptrv b t []) (.box b tid t X :: M)) : OpL P n o T M R := fun a w hk hm next Q' hn => by
  have he := encq_eq hv
  obtain ⟨h1, h2⟩ := new_box hm tid X hw
  have hr : (execOp a.eval o).run P w = .ok (.value (ptrv w.heap.size t [])) (w.alloc (.cells (cells t X).toArray tid)) := by
    unfold execOp; simp only [ho, hk.eval hx, ← he]
    simp [Instr.box, newVar, newRow, cells_enc_arr, ptrv, offp]
  unfold Oper.wp
  rw [hr, Oper.upon_value]
  exact hn _ _ _ h1 h2 (h _)

theorem ol_alloc {R : Value → List Fact → Prop} (ho : o.op = .alloc tid) (hty : TyOK P tid t) (hw : wf t (zero t)) (h : ∀ b, R (ptrv b t []) (.box b tid t (zero t) :: M)) : OpL P n o T M R := fun a w hk hm next Q' hn => by
  obtain ⟨h1, h2⟩ := new_box hm tid (zero t) hw
  have hr : (execOp a.eval o).run P w = .ok (.value (ptrv w.heap.size t [])) (w.alloc (.cells (cells t (zero t)).toArray tid)) := by
    unfold execOp; simp only [ho]
    simp [Instr.alloc, hty.zero w, newVar, newRow, cells_enc_arr, ptrv, offp]
  unfold Oper.wp
  rw [hr, Oper.upon_value]
  exact hn _ _ _ h1 h2 (h _)

theorem new_one {w : World} (hm : Mem M w) (tid : Nat) (u : Value) (hu : u.oneCell' = true) :
    Mem (.one w.heap.size tid u :: M) (w.alloc (.cells #[u] tid)) ∧ Step M w (.one w.heap.size tid u :: M) (w.alloc (.cells #[u] tid)) := by
  have hsz : w.heap.size ≤ (w.alloc (.cells #[u] tid)).heap.size := by simp
  have hsame : ∀ b, b < w.heap.size → (w.alloc (.cells #[u] tid)).heap[b]? = w.heap[b]? := fun b hb => heap_alloc_old w _ hb
  exact ⟨hm.cons hsz hsame ⟨heap_alloc_new w _, hu⟩ (by simp [Fact.mut]) (by simp [Fact.mut]) (by simp [Fact.imm]), Step.cons hsz hsame (by simp [Fact.mut]) (by simp [Fact.imm]) rfl rfl rfl⟩
theorem cells_one_val {u : Value} (hu : u.oneCell' = true) : u.cells = #[u] := by
  cases u <;> first | rfl | cases hu
theorem ol_box1 {u : Value} {R : Value → List Fact → Prop} (ho : o.op = .box tid x) (hx : look T x = some u) (hu : u.oneCell' = true) (h : ∀ b, R (.pointer (some ⟨b, 0, none⟩)) (.one b tid u :: M)) : OpL P n o T M R := fun a w hk hm next Q' hn => by
  obtain ⟨h1, h2⟩ := new_one hm tid u hu
  have hr : (execOp a.eval o).run P w = .ok (.value (.pointer (some ⟨w.heap.size, 0, none⟩))) (w.alloc (.cells #[u] tid)) := by
    unfold execOp; simp only [ho, hk.eval hx]
    simp [Instr.box, newVar, newRow, cells_one_val hu]
  unfold Oper.wp
  rw [hr, Oper.upon_value]
  exact hn _ _ _ h1 h2 (h _)
theorem ol_alloc1 {u : Value} {R : Value → List Fact → Prop} (ho : o.op = .alloc tid) (hz : ∀ w, (zeroValue tid).run P w = .ok u w) (hu : u.oneCell' = true) (h : ∀ b, R (.pointer (some ⟨b, 0, none⟩)) (.one b tid u :: M)) : OpL P n o T M R := fun a w hk hm next Q' hn => by
  obtain ⟨h1, h2⟩ := new_one hm tid u hu
  have hr : (execOp a.eval o).run P w = .ok (.value (.pointer (some ⟨w.heap.size, 0, none⟩))) (w.alloc (.cells #[u] tid)) := by
    unfold execOp; simp only [ho]
    simp [Instr.alloc, hz w, newVar, newRow, cells_one_val hu]
  unfold Oper.wp
  rw [hr, Oper.upon_value]
  exact hn _ _ _ h1 h2 (h _)

/-! stores -/
theorem store_run {w : World} {X : El t} {u : El (TyAt t p)} (hb : w.heap[b]? = some (.cells (cells t X).toArray tidb (0, 0))) (hw : wf t X) (hok : okp t p) (hwu : wf (TyAt t p) u) (hty : TyOK P tid (TyAt t p)) :
    (storeVar tid ⟨b, offp t p, none⟩ (enc (TyAt t p) u)).run P w = .ok () (w.setRow b (cells t (setp t X p u)).toArray) := by
  obtain ⟨h1, h2, h3, h4⟩ := path_spec t X hw p hok
  have hl := cells_length t X hw
  have hlu := cells_length _ u hwu
  have hst := run_storeCells_at P b (offp t p) tidb (cells (TyAt t p) u) 0 (cells t X).toArray w hb (by simp [hl, hlu]; omega) (cells_one _ u)
  simp only [Nat.add_zero] at hst
  unfold storeVar
  simp only [Sem.run_bind, hty.size w, Result.andThen_ok, enc_cells]
  rw [if_neg (by simp [hlu])]
  rw [(h4 u hwu).2, hst]
  simp [hlu]

theorem head_box {w w' : World} {X X' : El t} (hm : Mem (.box b tidb t X :: M) w) (hw' : wf t X') (e : w' = w.setRow b (cells t X').toArray) :
    Mem (.box b tidb t X' :: M) w' ∧ Step (.box b tidb t X :: M) w (.box b tidb t X' :: M) w' := by
  have hb : w.heap[b]? = some (.cells (cells t X).toArray tidb (0, 0)) ∧ wf t X := hm.all (.box b tidb t X) (by simp)
  subst e
  have hsame : ∀ c, c < w.heap.size → c ∉ (Fact.box b tidb t X).mut → (w.setRow b (cells t X').toArray).heap[c]? = w.heap[c]? := fun c _ hc => setRow_other w b c _ (by simpa [Fact.mut] using hc)
  have hsz : w.heap.size ≤ (w.setRow b (cells t X').toArray).heap.size := by simp
  exact ⟨hm.head hsz hsame ⟨setRow_heap w b _ _ tidb (0, 0) hb.1, hw'⟩ (by simp [Fact.mut]) (by simp [Fact.mut]) rfl,
    Step.head hsz hsame (by simp [Fact.mut]) rfl rfl rfl rfl⟩

theorem perm_mid (l1 l2 : List Fact) (f : Fact) : List.Perm (f :: (l1 ++ l2)) (l1 ++ f :: l2) := List.perm_middle.symm

theorem ol_store {l1 l2 : List Fact} {X : El t} {u : El (TyAt t p)} {R : Value → List Fact → Prop} (ho : o.op = .store tid x y) (hx : look T x = some (ptrv b t p)) (hy : look T y = some v) (hM : M = l1 ++ .box b tidb t X :: l2) (hok : okp t p)
    (hv : encq (TyAt t p) u = some v) (hwu : wf (TyAt t p) u) (hty : TyOK P tid (TyAt t p)) (h : R undef (l1 ++ .box b tidb t (setp t X p u) :: l2)) : OpL P n o T M R := fun a w hk hm next Q' hn => by
  have he := encq_eq hv
  subst hM
  have hm' := hm.perm (perm_mid l1 l2 _)
  have hb : w.heap[b]? = some (.cells (cells t X).toArray tidb (0, 0)) ∧ wf t X := hm'.all (.box b tidb t X) (by simp)
  have hr : (execOp a.eval o).run P w = .ok .skip (w.setRow b (cells t (setp t X p u)).toArray) := by
    unfold execOp; simp only [ho, hk.eval hx, hk.eval hy, ← he]
    simp only [Instr.storeAt, ptrv, Instr.sureAddr, Sem.run_bind, Sem.run_pure, Result.andThen_ok, store_run hb.1 hb.2 hok hwu hty]
  obtain ⟨h1, h2, h3, h4⟩ := path_spec t X hb.2 p hok
  obtain ⟨g1, g2⟩ := head_box hm' (h4 u hwu).1 rfl
  unfold Oper.wp
  rw [hr, Oper.upon_skip]
  exact hn _ _ _ (g1.perm (perm_mid l1 l2 _).symm) (((Step.perm (perm_mid l1 l2 _)).trans g2).trans (Step.perm (perm_mid l1 l2 _).symm)) h

theorem ol_store1 {l1 l2 : List Fact} {u u' : Value} {R : Value → List Fact → Prop} (ho : o.op = .store tid x y) (hx : look T x = some (.pointer (some ⟨b, 0, none⟩))) (hy : look T y = some u') (hM : M = l1 ++ .one b tidb u :: l2)
    (hu' : u'.oneCell' = true) (hs : ∀ w, (sizeOf tid).run P w = .ok 1 w) (h : R undef (l1 ++ .one b tidb u' :: l2)) : OpL P n o T M R := fun a w hk hm next Q' hn => by
  subst hM
  have hm' := hm.perm (perm_mid l1 l2 _)
  have hb : w.heap[b]? = some (.cells #[u] tidb (0, 0)) ∧ u.oneCell' = true := hm'.all (.one b tidb u) (by simp)
  have hst := run_storeCells_at P b 0 tidb [u'] 0 #[u] w hb.1 (by simp) (by simpa using hu')
  have hr : (execOp a.eval o).run P w = .ok .skip (w.setRow b #[u']) := by
    unfold execOp; simp only [ho, hk.eval hx, hk.eval hy]
    simp [Instr.storeAt, Instr.sureAddr, storeVar, hs w, cells_one_val hu', hst]
  have hsame : ∀ c, c < w.heap.size → c ∉ (Fact.one b tidb u).mut → (w.setRow b #[u']).heap[c]? = w.heap[c]? := fun c _ hc => setRow_other w b c _ (by simpa [Fact.mut] using hc)
  have hsz : w.heap.size ≤ (w.setRow b #[u']).heap.size := by simp
  have g1 : Mem (.one b tidb u' :: (l1 ++ l2)) (w.setRow b #[u']) := hm'.head hsz hsame ⟨setRow_heap w b _ _ tidb (0, 0) hb.1, hu'⟩ (by simp [Fact.mut]) (by simp [Fact.mut]) rfl
  have g2 : Step (.one b tidb u :: (l1 ++ l2)) w (.one b tidb u' :: (l1 ++ l2)) (w.setRow b #[u']) := Step.head hsz hsame (by simp [Fact.mut]) rfl rfl rfl rfl
  unfold Oper.wp
  rw [hr, Oper.upon_skip]
  exact hn _ _ _ (g1.perm (perm_mid l1 l2 _).symm) (((Step.perm (perm_mid l1 l2 _)).trans g2).trans (Step.perm (perm_mid l1 l2 _).symm)) h
end
end Go.Kw
set_option linter.unusedVariables false
set_option linter.unusedSimpArgs false
namespace Go.Kw
theorem bq {b w : Bool} (h : b = w) : (b == w) = true := by subst h; cases b <;> rfl
theorem bq2 {g b w : Bool} (hg : g = true) (h : b = w) : (g && (b == w)) = true := by subst h; subst hg; cases b <;> rfl
abbrev u64v (b : BitVec 64) : Value := .int .u64 ((b.toNat : Nat) : Int)
theorem tn {ix : Int} {n : Nat} (h0 : 0 ≤ ix) (h1 : ix < n) : ix.toNat < n := by omega
theorem val_int {k : IntKind} {a b : Int} (h : a = b) : Value.int k a = .int k b := by rw [h]
theorem val_bool {a b : Bool} (h : a = b) : Value.bool a = .bool b := by rw [h]
theorem val_u64 {a b : BitVec 64} (h : a = b) : Value.int .u64 ((a.toNat : Nat) : Int) = .int .u64 ((b.toNat : Nat) : Int) := by rw [h]
theorem val_enc {t : Ty} {a b : El t} (h : a = b) : enc t a = enc t b := by rw [h]
mutual
theorem wf_zero : (t : Ty) → wf t (zero t)
  | .int _ => trivial
  | .bool => trivial
  | .str => trivial
  | .fn => trivial
  | .st fs => wfs_zeros fs
  | .ar n t => ⟨List.length_replicate, fun x hx => by
      have := List.eq_of_mem_replicate hx
      rw [this]; exact wf_zero t⟩
theorem wfs_zeros : (fs : List Ty) → wfs fs (zeros fs)
  | [] => trivial
  | t :: fs => ⟨wf_zero t, wfs_zeros fs⟩
end
mutual
def triv : Ty → Bool
  | .ar _ _ => false
  | .st fs => trivs fs
  | _ => true
def trivs : List Ty → Bool
  | [] => true
  | t :: fs => triv t && trivs fs
end
mutual
theorem wf_triv : {t : Ty} → triv t = true → (x : El t) → wf t x
  | .int _, _, _ => trivial
  | .bool, _, _ => trivial
  | .str, _, _ => trivial
  | .fn, _, _ => trivial
  | .st fs, h, x => wfs_triv fs h x
  | .ar _ _, h, _ => by simp [triv] at h
theorem wfs_triv : (fs : List Ty) → trivs fs = true → (x : Els fs) → wfs fs x
  | [], _, _ => trivial
  | t :: fs, h, x => by
    have h' : (triv t && trivs fs) = true := h
    rw [Bool.and_eq_true] at h'
    exact ⟨wf_triv h'.1 x.1, wfs_triv fs h'.2 x.2⟩
end
mutual
def wfq : (t : Ty) → El t → Bool
  | .int _, _ => true
  | .bool, _ => true
  | .str, _ => true
  | .fn, _ => true
  | .st fs, x => wfsq fs x
  | .ar n t, xs => Nat.beq (show List (El t) from xs).length n && (show List (El t) from xs).all (wfq t)
def wfsq : (fs : List Ty) → Els fs → Bool
  | [], _ => true
  | t :: fs, x => wfq t x.1 && wfsq fs x.2
end
mutual
theorem wf_of_q : {t : Ty} → {x : El t} → wfq t x = true → wf t x
  | .int _, _, _ => trivial
  | .bool, _, _ => trivial
  | .str, _, _ => trivial
  | .fn, _, _ => trivial
  | .st fs, x, h => wfs_of_q fs x h
  | .ar n t, xs, h => by
    have h' : (Nat.beq (show List (El t) from xs).length n && (show List (El t) from xs).all (wfq t)) = true := h
    rw [Bool.and_eq_true] at h'
    exact ⟨Nat.eq_of_beq_eq_true h'.1, fun x hx => wf_of_q (List.all_eq_true.1 h'.2 x hx)⟩
theorem wfs_of_q : (fs : List Ty) → (x : Els fs) → wfsq fs x = true → wfs fs x
  | [], _, _ => trivial
  | t :: fs, x, h => by
    have h' : (wfq t x.1 && wfsq fs x.2) = true := h
    rw [Bool.and_eq_true] at h'
    exact ⟨wf_of_q h'.1, wfs_of_q fs x.2 h'.2⟩
end
section
variable {P : Program} {n : Nat} {T : Tm} {M : List Fact} {o : Oper} {v w1 w2 w3 : Value} {x y z : Operand} {b tid tidb : Nat} {t : Ty} {p : List PS}
theorem ov_neg64 {a : BitVec 64} {t1 : TypeId} (ho : o.op = .unOp .neg t1 x) (hx : look T x = some (u64v a)) : OpX P n o T M (u64v (-a)) := by
  have := ov_negw (P := P) (n := n) (M := M) ho hx
  rw [wrap_u64] at this
  have e : BitVec.ofInt 64 (-((a.toNat : Nat) : Int)) = -a := by
    rw [BitVec.ofInt_neg]; congr 1
    apply BitVec.eq_of_toNat_eq; simp
  rw [e] at this
  exact this
theorem OpL_two {R : Value → List Fact → Prop} (hv : OpV P n o T M v) (h : R v M) : OpL P n o T M R := fun a w hk hm next Q' hn => OpL_of_V hv a w hk hm next Q' fun u M' w' h1 h2 ⟨e1, e2⟩ => by
  subst e1; subst e2; exact hn _ _ w' h1 h2 h
theorem looks_nil : looks T [] = some [] := rfl
theorem looks_cons {r : List Operand} {vs : List Value} (h : look T x = some v) (hr : looks T r = some vs) : looks T (x :: r) = some (v :: vs) := by simp [looks, h, hr]
theorem ResV_tmp1 {fn : Func} {i : Nat} (h : fn.results = #[.tmp i]) (hl : lk T i = some w1) (hv : w1 = v) : ResV P n fn T M v := hv ▸ ResV_tmp h hl
theorem ResV_tmp2q {fn : Func} {i j : Nat} (h : fn.results = #[.tmp i, .tmp j]) (hl : lk T i = some w1) (hl2 : lk T j = some w2) (hv : Value.tuple #[w1, w2] = v) : ResV P n fn T M v := hv ▸ ResV_tmp2 h hl hl2
theorem ResV_tmp3q {fn : Func} {i j k : Nat} (h : fn.results = #[.tmp i, .tmp j, .tmp k]) (hl : lk T i = some w1) (hl2 : lk T j = some w2) (hl3 : lk T k = some w3) (hv : Value.tuple #[w1, w2, w3] = v) : ResV P n fn T M v := fun a w hk hm => by
  have h1 := hk.2.2 i w1 hl
  have h2 := hk.2.2 j w2 hl2
  have h3 := hk.2.2 k w3 hl3
  subst hv
  simp [results, h, Array.getD_eq_getD_getElem?, h1, h2, h3]
theorem ResV_cell {fn : Func} {i : Nat} {X : El t} (h : fn.results = #[.cell i tid]) (hl : lk T i = some (ptrv b t [])) (hm : Fact.box b tidb t X ∈ M) (hv : encq t X = some w1) (hty : TyOK P tid t) (hw : w1 = v) : ResV P n fn T M v := fun a w hk hmm => by
  have hb : w.heap[b]? = some (.cells (cells t X).toArray tidb (0, 0)) ∧ wf t X := hmm.all _ hm
  have h1 := hk.2.2 i _ hl
  have hr := run_loadVar_at (P := P) (tid := tid) (off := 0) hb.1 hb.2 (by rw [← cells_length t X hb.2]; simp) hty
  subst hw
  simp [results, h, Array.getD_eq_getD_getElem?, h1, ptrv, offp, asAddr, hr, encq_eq hv]

theorem run_equal_bool {a c : Bool} {t1 : TypeId} (hu : P.underlying t1 = some .bool) (w : World) : (Op.equal t1 (.bool a) (.bool c)).run P w = .ok (a == c) w := by
  unfold Op.equal
  rw [show Op.maxDepth = 9999 + 1 from rfl]
  generalize 9999 = d
  simp only [Op.equalIn, Sem.run_bind, run_underlying hu, Result.andThen_ok, Sem.run_pure]
theorem ov_eqlB {a c : Bool} {t1 t2 : TypeId} (ho : o.op = .binOp .eql t1 x y t2) (hu : P.underlying t1 = some .bool) (hx : look T x = some (.bool a)) (hy : look T y = some (.bool c)) : OpX P n o T M (.bool (a == c)) := ov_run fun d w hk hm => by
  unfold execOp; simp only [ho, hk.eval hx, hk.eval hy]
  simp only [eqGuard, binOp, Sem.run_bind, run_equal_bool hu, Result.andThen_ok, Sem.run_pure]
  rfl
theorem ov_neqB {a c : Bool} {t1 t2 : TypeId} (ho : o.op = .binOp .neq t1 x y t2) (hu : P.underlying t1 = some .bool) (hx : look T x = some (.bool a)) (hy : look T y = some (.bool c)) : OpX P n o T M (.bool (!(a == c))) := ov_run fun d w hk hm => by
  unfold execOp; simp only [ho, hk.eval hx, hk.eval hy]
  simp only [eqGuard, binOp, Sem.run_bind, run_equal_bool hu, Result.andThen_ok, Sem.run_pure]
  rfl
theorem ov_max2 {k : IntKind} {a c : Int} {t1 t2 : TypeId} (ho : o.op = .call { callee := .builtin .max, args := #[x, y], argTypes := #[t1, t2] }) (hx : look T x = some (.int k a)) (hy : look T y = some (.int k c)) : OpX P n o T M (.int k (max a c)) := ov_run fun d w hk hm => by
  unfold execOp; simp only [ho]
  have e : (if c > a then c else a) = max a c := by split <;> omega
  simp [resolve, invoke, builtin, Builtin.max_, Builtin.max2, hk.eval hx, hk.eval hy, e]
theorem ov_min2 {k : IntKind} {a c : Int} {t1 t2 : TypeId} (ho : o.op = .call { callee := .builtin .min, args := #[x, y], argTypes := #[t1, t2] }) (hx : look T x = some (.int k a)) (hy : look T y = some (.int k c)) : OpX P n o T M (.int k (min a c)) := ov_run fun d w hk hm => by
  unfold execOp; simp only [ho]
  have e : (if c < a then c else a) = min a c := by split <;> omega
  simp [resolve, invoke, builtin, Builtin.min_, Builtin.min2, hk.eval hx, hk.eval hy, e]
theorem ol_st0 {M : List Fact} {X : El t} {u : El (TyAt t p)} {R : Value → List Fact → Prop} (ho : o.op = .store tid x y) (hx : look T x = some (ptrv b t p)) (hy : look T y = some v) (hok : okp t p)
    (hv : encq (TyAt t p) u = some v) (hwu : wf (TyAt t p) u) (hty : TyOK P tid (TyAt t p)) (h : R undef (.box b tidb t (setp t X p u) :: M)) : OpL P n o T (.box b tidb t X :: M) R := ol_store (l1 := []) ho hx hy rfl hok hv hwu hty h
theorem ol_st1 {f0 : Fact} {M : List Fact} {X : El t} {u : El (TyAt t p)} {R : Value → List Fact → Prop} (ho : o.op = .store tid x y) (hx : look T x = some (ptrv b t p)) (hy : look T y = some v) (hok : okp t p)
    (hv : encq (TyAt t p) u = some v) (hwu : wf (TyAt t p) u) (hty : TyOK P tid (TyAt t p)) (h : R undef (f0 :: .box b tidb t (setp t X p u) :: M)) : OpL P n o T (f0 :: .box b tidb t X :: M) R := ol_store (l1 := [f0]) ho hx hy rfl hok hv hwu hty h
theorem ol_st2 {f0 f1 : Fact} {M : List Fact} {X : El t} {u : El (TyAt t p)} {R : Value → List Fact → Prop} (ho : o.op = .store tid x y) (hx : look T x = some (ptrv b t p)) (hy : look T y = some v) (hok : okp t p)
    (hv : encq (TyAt t p) u = some v) (hwu : wf (TyAt t p) u) (hty : TyOK P tid (TyAt t p)) (h : R undef (f0 :: f1 :: .box b tidb t (setp t X p u) :: M)) : OpL P n o T (f0 :: f1 :: .box b tidb t X :: M) R := ol_store (l1 := [f0, f1]) ho hx hy rfl hok hv hwu hty h
theorem ol_on2 {f0 f1 : Fact} {M : List Fact} {u u' : Value} {R : Value → List Fact → Prop} (ho : o.op = .store tid x y) (hx : look T x = some (.pointer (some ⟨b, 0, none⟩))) (hy : look T y = some u') (hu' : u'.oneCell' = true) (hs : ∀ w, (sizeOf tid).run P w = .ok 1 w)
    (h : R undef (f0 :: f1 :: .one b tidb u' :: M)) : OpL P n o T (f0 :: f1 :: .one b tidb u :: M) R := ol_store1 (l1 := [f0, f1]) ho hx hy rfl hu' hs h
theorem ol_on3 {f0 f1 f2 : Fact} {M : List Fact} {u u' : Value} {R : Value → List Fact → Prop} (ho : o.op = .store tid x y) (hx : look T x = some (.pointer (some ⟨b, 0, none⟩))) (hy : look T y = some u') (hu' : u'.oneCell' = true) (hs : ∀ w, (sizeOf tid).run P w = .ok 1 w)
    (h : R undef (f0 :: f1 :: f2 :: .one b tidb u' :: M)) : OpL P n o T (f0 :: f1 :: f2 :: .one b tidb u :: M) R := ol_store1 (l1 := [f0, f1, f2]) ho hx hy rfl hu' hs h
theorem ol_st4 {f0 f1 f2 f3 : Fact} {M : List Fact} {X : El t} {u : El (TyAt t p)} {R : Value → List Fact → Prop} (ho : o.op = .store tid x y) (hx : look T x = some (ptrv b t p)) (hy : look T y = some v) (hok : okp t p)
    (hv : encq (TyAt t p) u = some v) (hwu : wf (TyAt t p) u) (hty : TyOK P tid (TyAt t p)) (h : R undef (f0 :: f1 :: f2 :: f3 :: .box b tidb t (setp t X p u) :: M)) : OpL P n o T (f0 :: f1 :: f2 :: f3 :: .box b tidb t X :: M) R := ol_store (l1 := [f0, f1, f2, f3]) ho hx hy rfl hok hv hwu hty h
theorem ol_st5 {f0 f1 f2 f3 f4 : Fact} {M : List Fact} {X : El t} {u : El (TyAt t p)} {R : Value → List Fact → Prop} (ho : o.op = .store tid x y) (hx : look T x = some (ptrv b t p)) (hy : look T y = some v) (hok : okp t p)
    (hv : encq (TyAt t p) u = some v) (hwu : wf (TyAt t p) u) (hty : TyOK P tid (TyAt t p)) (h : R undef (f0 :: f1 :: f2 :: f3 :: f4 :: .box b tidb t (setp t X p u) :: M)) : OpL P n o T (f0 :: f1 :: f2 :: f3 :: f4 :: .box b tidb t X :: M) R := ol_store (l1 := [f0, f1, f2, f3, f4]) ho hx hy rfl hok hv hwu hty h
theorem ol_sw0 {M : List Fact} {X u : El t} {R : Value → List Fact → Prop} (ho : o.op = .store tid x y) (hx : look T x = some (ptrv b t [])) (hy : look T y = some v)
    (hv : encq t u = some v) (hwu : wf t u) (hty : TyOK P tid t) (h : R undef (.box b tidb t u :: M)) : OpL P n o T (.box b tidb t X :: M) R := ol_st0 (p := []) ho hx hy trivial hv hwu hty h
theorem ol_sw1 {f0 : Fact} {M : List Fact} {X u : El t} {R : Value → List Fact → Prop} (ho : o.op = .store tid x y) (hx : look T x = some (ptrv b t [])) (hy : look T y = some v)
    (hv : encq t u = some v) (hwu : wf t u) (hty : TyOK P tid t) (h : R undef (f0 :: .box b tidb t u :: M)) : OpL P n o T (f0 :: .box b tidb t X :: M) R := ol_st1 (p := []) ho hx hy trivial hv hwu hty h
theorem ol_sw2 {f0 f1 : Fact} {M : List Fact} {X u : El t} {R : Value → List Fact → Prop} (ho : o.op = .store tid x y) (hx : look T x = some (ptrv b t [])) (hy : look T y = some v)
    (hv : encq t u = some v) (hwu : wf t u) (hty : TyOK P tid t) (h : R undef (f0 :: f1 :: .box b tidb t u :: M)) : OpL P n o T (f0 :: f1 :: .box b tidb t X :: M) R := ol_st2 (p := []) ho hx hy trivial hv hwu hty h
theorem ol_sw4 {f0 f1 f2 f3 : Fact} {M : List Fact} {X u : El t} {R : Value → List Fact → Prop} (ho : o.op = .store tid x y) (hx : look T x = some (ptrv b t [])) (hy : look T y = some v)
    (hv : encq t u = some v) (hwu : wf t u) (hty : TyOK P tid t) (h : R undef (f0 :: f1 :: f2 :: f3 :: .box b tidb t u :: M)) : OpL P n o T (f0 :: f1 :: f2 :: f3 :: .box b tidb t X :: M) R := ol_st4 (p := []) ho hx hy trivial hv hwu hty h
theorem ol_sw5 {f0 f1 f2 f3 f4 : Fact} {M : List Fact} {X u : El t} {R : Value → List Fact → Prop} (ho : o.op = .store tid x y) (hx : look T x = some (ptrv b t [])) (hy : look T y = some v)
    (hv : encq t u = some v) (hwu : wf t u) (hty : TyOK P tid t) (h : R undef (f0 :: f1 :: f2 :: f3 :: f4 :: .box b tidb t u :: M)) : OpL P n o T (f0 :: f1 :: f2 :: f3 :: f4 :: .box b tidb t X :: M) R := ol_st5 (p := []) ho hx hy trivial hv hwu hty h
end
end Go.Kw
set_option linter.unusedVariables false
namespace Go.Kw
section
variable {P : Program} {ops : Array Oper} {Q' : Exit → Act → World → Prop}

/-- Only the normal end counts. -/
def Quiet (Q' : Exit → Act → World → Prop) : Prop := ∀ e a w, Q' e a w → e = .normal
theorem Quiet.out (h : Quiet Q') : ¬ LetsOut Q' := fun ⟨a, w, hq⟩ => by have := h _ _ _ hq; cases this

def closed (ops : Array Oper) (listed : Array Bool) : Prop :=
  ∀ j oj, ops[j]? = some oj → listed.getD j false = true → ∀ e ∈ oj.after, Region.binds .any e = true → listed.getD e.on false = true

/-- t waits for i, at most f edges on. -/
def anc (ops : Array Oper) : Nat → Nat → Nat → Bool
  | 0, _, _ => false
  | f + 1, t, i => match ops[t]? with
    | some o => o.after.any fun e => Region.binds .any e && (e.on == i || anc ops f e.on i)
    | none => false

theorem anc_listed {listed : Array Bool} (hc : closed ops listed) : ∀ (f t i : Nat), anc ops f t i = true → (∀ ot, ops[t]? = some ot → ∀ e ∈ ot.after, Region.binds .any e = true → listed.getD e.on false = true) → listed.getD i false = true
  | 0, t, i, h, _ => by simp [anc] at h
  | f + 1, t, i, h, hl => by
    unfold anc at h
    cases ho : ops[t]? with
    | none => simp [ho] at h
    | some o =>
      simp only [ho] at h
      obtain ⟨e, he, hb⟩ := Array.any_eq_true'.1 h
      simp only [Bool.and_eq_true, Bool.or_eq_true, beq_iff_eq] at hb
      have h1 := hl o ho e he hb.1
      rcases hb.2 with rfl | h2
      · exact h1
      · exact anc_listed hc f e.on i h2 fun oe hoe e' he' hb' => hc e.on oe hoe h1 e' he' hb'

theorem closed_set {listed : Array Bool} {i : Nat} (hc : closed ops listed) (hi : i ∈ Region.ready .any ops listed) : closed ops (listed.setIfInBounds i true) := by
  obtain ⟨_, oi, hoi, hall⟩ := mem_ready.1 hi
  intro j oj hj hl e he hb
  by_cases hij : i = j
  · subst hij
    have : oj = oi := Option.some.inj (hj.symm.trans hoi)
    subst this
    exact getD_set_true (hall e he hb)
  · rw [getD_set_ne false hij] at hl
    exact getD_set_true (hc j oj hj hl e he hb)

/-- Has an operation come up that needn't keep the class? -/
def begun (keep : Nat → Bool) (ops : Array Oper) (listed : Array Bool) : Bool :=
  (List.range ops.size).any fun t => !keep t && listed.getD t false

def wpAnyV (P : Program) (ops : Array Oper) (keep : Nat → Bool) (C : World → Prop) (Q' : Exit → Act → World → Prop) : Nat → Array Bool → Act → World → Prop
  | 0, listed, a, w => Region.ready .any ops listed = [] ∧ Q' .normal a w
  | f + 1, listed, a, w => (Region.ready .any ops listed = [] → Q' .normal a w) ∧
    ∀ i ∈ Region.ready .any ops listed, wpOp P ops Q' i (fun a' w' => (keep i = true → begun keep ops listed = false → C w') ∧ wpAnyV P ops keep C Q' f (listed.setIfInBounds i true) a' w') a w

variable {keep : Nat → Bool} {C : World → Prop}
theorem wpAny_of_V : ∀ (f : Nat) (listed : Array Bool) (a : Act) (w : World), wpAnyV P ops keep C Q' f listed a w → wpAny P .any ops Q' f listed a w
  | 0, _, _, _, h => h
  | f + 1, _, _, _, h => ⟨h.1, fun i hi => wpOp_mono (fun a' w' h' => wpAny_of_V f _ a' w' h'.2) (h.2 i hi)⟩

def YieldsW (P : Program) (ops : Array Oper) (o : Oper) (v : Value) (a : Act) (w : World) : Prop :=
  (Region.wanted o (yielded ops a.tmps) = true ∧ (execOp a.eval o).run P w = .ok (.value v) w) ∨ (Region.wanted o (yielded ops a.tmps) = false ∧ v = undef)

theorem YieldsW.wpOp {i : Nat} {o : Oper} {v : Value} {a : Act} {w : World} {K : Act → World → Prop} (hi : ops[i]? = some o) (hy : YieldsW P ops o v a w) (h : K (a.put o.dst v) w) : wpOp P ops Q' i K a w := by
  unfold Go.wpOp
  simp only [hi]
  rcases hy with ⟨hw, hr⟩ | ⟨hw, rfl⟩
  · rw [if_pos hw]
    refine .inl ?_
    unfold Oper.wp
    rw [hr, Oper.upon_value]
    exact h
  · rw [if_neg (by simp [hw])]
    exact h
theorem YieldsW.same {o : Oper} {v : Value} {a a' : Act} {w : World} (hy : YieldsW P ops o v a w) (he : execOp a'.eval o = execOp a.eval o)
    (hw : Region.wanted o (yielded ops a'.tmps) = Region.wanted o (yielded ops a.tmps)) : YieldsW P ops o v a' w := by
  unfold YieldsW at *
  rw [he, hw]; exact hy

theorem put_defers (a : Act) (d : Deferred) (x : Option Tmp) (v : Value) : ({ a with defers := d :: a.defers } : Act).put x v = { a.put x v with defers := d :: (a.put x v).defers } := by
  cases x <;> rfl
theorem eval_defers (a : Act) (ds : List Deferred) : ({ a with defers := ds } : Act).eval = a.eval := by
  funext x; cases x <;> rfl

/-- Another operation, apart from a yielding one, may go first. -/
theorem wpOp_swap {j : Nat} {oi oj : Oper} {v : Value} {w : World} {D : World → Prop} (hQ : Quiet Q') (hj : ops[j]? = some oj) (hap : oi.apart ops oj = true)
    (hsi : ∀ cs b, oi.op ≠ .select cs b) (hsj : ∀ cs b, oj.op ≠ .select cs b) {K : Act → World → Prop} {a : Act}
    (hy : ∀ w, D w → YieldsW P ops oi v a w) (h : wpOp P ops Q' j K (a.put oi.dst v) w) :
    wpOp P ops Q' j (fun a' w' => (∀ w, D w → YieldsW P ops oi v a' w) ∧ K (a'.put oi.dst v) w') a w := by
  obtain ⟨h1, h2, h3⟩ := Oper.apart_spec hap
  have keep : ∀ u, ∀ w, D w → YieldsW P ops oi v (a.put oj.dst u) w := fun u w hw =>
    (hy w hw).same (execOp_put oi hsi a oj.dst u h3) (wanted_put oi a oj.dst u h3)
  unfold wpOp at *
  simp only [hj] at *
  rw [wanted_put oj a oi.dst v h1] at h
  split
  · rename_i hw
    simp only [hw, if_true] at h
    rcases h with h | h
    · refine .inl ?_
      unfold Oper.wp at *
      rw [execOp_put oj hsj a oi.dst v h1] at h
      generalize (execOp a.eval oj).run P w = r at *
      cases r with
      | ok x w' =>
        cases x <;> simp only [Oper.upon] at h ⊢
        case value u => exact ⟨keep u, by rw [← Act.put_comm a v u h2]; exact h⟩
        case skip => exact ⟨keep _, by rw [← Act.put_comm a v undef h2]; exact h⟩
        case defer d =>
          refine ⟨fun w hw => ?_, ?_⟩
          · refine (hy w hw).same ?_ ?_
            · rw [execOp_put oi hsi _ oj.dst undef h3, eval_defers]
            · rw [wanted_put oi _ oj.dst undef h3]
          · have e := Act.put_comm ({ a with defers := d :: a.defers } : Act) v undef h2
            rw [← e, put_defers]
            have h' := h
            have e2 : ({ a.put oi.dst v with defers := d :: (a.put oi.dst v).defers } : Act) = ({ a.put oi.dst v with defers := d :: (a.put oi.dst v).defers } : Act) := rfl
            exact h'
        case enter f args =>
          exact h.mono fun e w'' he => by
            cases e with
            | returned u => exact ⟨keep u, by rw [← Act.put_comm a v u h2]; exact he⟩
            | panicked ch => have := hQ _ _ _ he; cases this
            | outgrown =>
              obtain ⟨a', w', hq⟩ := he
              have := hQ _ _ _ hq; cases this
        case row row args =>
          exact h.mono fun u w'' he => ⟨keep u, by rw [← Act.put_comm a v u h2]; exact he⟩
      | halt x w' =>
        cases x <;> simp only [Oper.upon] at h ⊢
        have := hQ _ _ _ h; cases this
    · exact absurd h.2 hQ.out
  · rename_i hw
    simp only [hw] at h
    exact ⟨keep undef, by rw [← Act.put_comm a v undef h2]; exact h⟩

theorem getDboth {listed : Array Bool} {i : Nat} (h : listed.getD i true = false) : listed.getD i false = false := by
  rcases Nat.lt_or_ge i listed.size with h' | h'
  · simp [h'] at h ⊢; exact h
  · simp [Array.getElem?_eq_none h'] at h

/-- An operation that is ready, and yields v in every world of D, may be taken first: whatever may go ahead of it keeps D. -/
theorem V_first {i : Nat} {oi : Oper} {v : Value} {D : World → Prop} (hQ : Quiet Q') (hi : ops[i]? = some oi) (hki : keep i = true) (hsel : ∀ (j : Nat) (o : Oper) cs b, ops[j]? = some o → o.op ≠ .select cs b)
    (hD : (∀ w, D w) ∨ ((∀ w, C w → D w) ∧ ∀ t, t < ops.size → keep t = false → anc ops ops.size t i = true)) :
    ∀ (f : Nat) (listed : Array Bool) (a : Act) (w : World), closed ops listed →
      (∀ j oj, ops[j]? = some oj → j ≠ i → listed.getD j true = false → (∀ e ∈ oj.after, Region.binds .any e = true → e.on ≠ i) → oi.apart ops oj = true) →
      i ∈ Region.ready .any ops listed → (∀ w, D w → YieldsW P ops oi v a w) → D w → (keep i = true → begun keep ops listed = false → C w) →
      wpAnyV P ops keep C Q' f (listed.setIfInBounds i true) (a.put oi.dst v) w → wpAnyV P ops keep C Q' (f + 1) listed a w := by
  intro f
  induction f with
  | zero =>
    intro listed a w hc hfree hr hy hw hC H
    refine ⟨fun h => (by rw [h] at hr; cases hr), fun j hj => ?_⟩
    by_cases hji : j = i
    · subst hji; exact (hy w hw).wpOp hi ⟨hC, H⟩
    · have := ready_mono hj hji
      rw [H.1] at this
      cases this
  | succ f ih =>
    intro listed a w hc hfree hr hy hw hC H
    refine ⟨fun h => (by rw [h] at hr; cases hr), fun j hj => ?_⟩
    by_cases hji : j = i
    · subst hji; exact (hy w hw).wpOp hi ⟨hC, H⟩
    · have h1 := H.2 j (ready_mono hj hji)
      obtain ⟨hjun, oj, hoj, hall⟩ := mem_ready.1 hj
      have hiun := (mem_ready.1 hr).1
      have hiunf : listed.getD i false = false := getDboth hiun
      have hnot : ∀ e ∈ oj.after, Region.binds .any e = true → e.on ≠ i := fun e he hb heq => by
        have h1 := hall e he hb
        rw [heq, hiunf] at h1
        cases h1
      have h2 := wpOp_swap hQ hoj (hfree j oj hoj hji hjun hnot) (fun cs b => hsel i oi cs b hi) (fun cs b => hsel j oj cs b hoj) hy h1
      have hfree' : ∀ k ok, ops[k]? = some ok → k ≠ i → (listed.setIfInBounds j true).getD k true = false →
          (∀ e ∈ ok.after, Region.binds .any e = true → e.on ≠ i) → oi.apart ops ok = true := fun k ok hk hki hun hno => by
        refine hfree k ok hk hki ?_ hno
        by_cases hjk : j = k
        · subst hjk; exact hjun
        · rw [getD_set_ne true hjk] at hun; exact hun
      have hclosed' := closed_set hc hj
      refine wpOp_mono (fun a' w' h3 => ?_) h2
      obtain ⟨hy', hCj, H'⟩ := h3
      -- what may go ahead of i keeps the class
      have hb1 : begun keep ops (listed.setIfInBounds i true) = begun keep ops listed := by
        unfold begun
        congr 1
        funext t
        by_cases hti : i = t
        · subst hti; rw [hki]; rfl
        · rw [getD_set_ne false hti]
      rw [hb1] at hCj
      have hb2 : begun keep ops (listed.setIfInBounds j true) = false → begun keep ops listed = false ∧ keep j = true := by
        intro hb
        have hjs : j < ops.size := (Array.getElem?_eq_some_iff.1 hoj).1
        have hjl : j < listed.size := by
          rcases Nat.lt_or_ge j listed.size with h | h
          · exact h
          · rw [Array.getD_eq_getD_getElem?, Array.getElem?_eq_none h] at hjun; cases hjun
        constructor
        · rw [← Bool.not_eq_true]
          intro hb'
          obtain ⟨t, ht, hb'⟩ := List.any_eq_true.1 hb'
          simp only [Bool.and_eq_true] at hb'
          have : begun keep ops (listed.setIfInBounds j true) = true := List.any_eq_true.2 ⟨t, ht, by
            rw [hb'.1]; simpa using getD_set_true hb'.2⟩
          rw [hb] at this; cases this
        · cases hkj : keep j with
          | true => rfl
          | false =>
            have : begun keep ops (listed.setIfInBounds j true) = true := List.any_eq_true.2 ⟨j, List.mem_range.2 hjs, by
              rw [hkj]
              simp [Array.getD_eq_getD_getElem?, hjl]⟩
            rw [hb] at this; cases this
      have key : D w' := by
        rcases hD with hD | ⟨hCD, hanc⟩
        · exact hD _
        · have hkj : keep j = true := by
            cases hkj : keep j with
            | true => rfl
            | false =>
              have hjs : j < ops.size := (Array.getElem?_eq_some_iff.1 hoj).1
              have := anc_listed hc _ j i (hanc j hjs hkj) (fun ot hot e he hb => by
                have e1 : ot = oj := Option.some.inj (hot.symm.trans hoj)
                subst e1; exact hall e he hb)
              rw [hiunf] at this; cases this
          have hbl : begun keep ops listed = false := by
            rw [← Bool.not_eq_true]
            intro hb'
            obtain ⟨t, ht, hb'⟩ := List.any_eq_true.1 hb'
            simp only [Bool.and_eq_true, Bool.not_eq_true'] at hb'
            have hts : t < ops.size := List.mem_range.1 ht
            have := anc_listed hc _ t i (hanc t hts hb'.1) (fun ot hot e he hb => hc t ot hot hb'.2 e he hb)
            rw [hiunf] at this; cases this
          exact hCD _ (hCj hkj hbl)
      exact ⟨hCj, ih (listed.setIfInBounds j true) a' w' hclosed' hfree' (ready_mono hr (Ne.symm hji)) hy' key
        (fun _ hb => hCj (hb2 hb).2 (hb2 hb).1) (by rw [Array.setIfInBounds_comm _ _ hji]; exact H')⟩
end
end Go.Kw
set_option linter.unusedVariables false
namespace Go.Kw
section
variable {P : Program} {n : Nat} {ops : Array Oper} {keep : Nat → Bool} {B M M0 : List Fact} {w0 : World} {R : Tm → List Fact → Prop} {T : Tm} {listed : Array Bool} {f i d : Nat} {oi : Oper} {v : Value}

def Qf (n : Nat) (M0 : List Fact) (w0 : World) (R : Tm → List Fact → Prop) : Exit → Act → World → Prop := fun e a' w' => ∃ T' M', Knows n T' a' ∧ Mem M' w' ∧ Step M0 w0 M' w' ∧ e = .normal ∧ R T' M'
theorem quiet_Qf : Quiet (Qf n M0 w0 R) := fun e a w ⟨_, _, _, _, _, h, _⟩ => h

def DO (P : Program) (n : Nat) (ops : Array Oper) (keep : Nat → Bool) (B M0 : List Fact) (w0 : World) (R : Tm → List Fact → Prop) (listed : Array Bool) (f : Nat) (T : Tm) (M : List Fact) : Prop :=
  ∀ a w, Knows n T a → Mem M w → Step M0 w0 M w → (begun keep ops listed = false → Mem B w) → closed ops listed → wpAnyV P ops keep (Mem B) (Qf n M0 w0 R) f listed a w

def chkM (ops : Array Oper) (keep : Nat → Bool) (listed : Array Bool) (i : Nat) : Bool :=
  Region.noSelect ops && (Region.ready .any ops listed).contains i && Region.free .any ops listed i && keep i && (List.range ops.size).all fun t => keep t || anc ops ops.size t i
def chkP (ops : Array Oper) (keep : Nat → Bool) (listed : Array Bool) (i : Nat) : Bool :=
  Region.noSelect ops && (Region.ready .any ops listed).contains i && Region.free .any ops listed i && keep i
def chk1 (ops : Array Oper) (listed : Array Bool) (i : Nat) : Bool :=
  match Region.ready .any ops listed with
  | [j] => j == i
  | _ => false

theorem begun_set {l : Array Bool} (hki : keep i = true) : begun keep ops (l.setIfInBounds i true) = begun keep ops l := by
  unfold begun
  congr 1
  funext t
  by_cases hti : i = t
  · subst hti; rw [hki]; rfl
  · rw [getD_set_ne false hti]

/-- The operation's guard, as the frame says it. -/
def GuardIs (ops : Array Oper) (o : Oper) (T : Tm) (g : Bool) : Prop :=
  match o.guard with
  | none => g = true
  | some (j, want) => ∃ oj e g' b, ops[j]? = some oj ∧ oj.dst = some e ∧ lk T e = some (gv g' (.bool b)) ∧ g = (g' && (b == want))
theorem GuardIs.wanted {o : Oper} {g : Bool} {a : Act} (h : GuardIs ops o T g) (hk : Knows n T a) : Region.wanted o (yielded ops a.tmps) = g := by
  unfold GuardIs at h
  unfold Region.wanted
  split at h
  · rename_i hg; rw [hg, h]
  · rename_i j want hg
    obtain ⟨oj, e, g', b, h1, h2, h3, rfl⟩ := h
    have hcell := hk.2.2 e _ h3
    simp only [hg, yielded, h1, Option.bind_some, h2, hcell]
    cases g'
    · simp [gv, undef]
    · simp [gv]
theorem GuardIs.isNone {o : Oper} (h : o.guard = none) : GuardIs ops o T true := by unfold GuardIs; rw [h]
theorem GuardIs.is {o oj : Oper} {j e : Nat} {want g' b : Bool} (h : o.guard = some (j, want)) (h1 : ops[j]? = some oj) (h2 : oj.dst = some e) (h3 : lk T e = some (gv g' (.bool b))) : GuardIs ops o T (g' && (b == want)) := by
  unfold GuardIs; rw [h]; exact ⟨oj, e, g', b, h1, h2, h3, rfl⟩
theorem GuardIs.is1 {o oj : Oper} {j e : Nat} {want b : Bool} (h : o.guard = some (j, want)) (h1 : ops[j]? = some oj) (h2 : oj.dst = some e) (h3 : lk T e = some (.bool b)) : GuardIs ops o T (b == want) := by
  have := GuardIs.is (g' := true) h h1 h2 (by simpa [gv] using h3)
  simpa using this

theorem D_first {D : World → Prop} {g : Bool} (hi : ops[i]? = some oi) (hc : chkP ops keep listed i = true) (hD : (∀ w, D w) ∨ ((∀ w, Mem B w → D w) ∧ ∀ t, t < ops.size → keep t = false → anc ops ops.size t i = true)) (hDw : ∀ w, Mem M w → (begun keep ops listed = false → Mem B w) → D w)
    (hd : oi.dst = some d) (hn : d < n) (hg : GuardIs ops oi T g) (hv : g = true → ∀ a w, Knows n T a → D w → (execOp a.eval oi).run P w = .ok (.value v) w)
    (h : DO P n ops keep B M0 w0 R (listed.setIfInBounds i true) f ((d, gv g v) :: T) M) : DO P n ops keep B M0 w0 R listed (f + 1) T M := fun a w hk hm hs hb hcl => by
  simp only [chkP, Bool.and_eq_true] at hc
  obtain ⟨⟨⟨hns, hr⟩, hfr⟩, hki⟩ := hc
  have hr' : i ∈ Region.ready .any ops listed := by simpa using hr
  refine V_first (v := gv g v) (D := D) quiet_Qf hi hki (Region.noSelect_spec hns) hD f listed a w hcl (Region.free_spec hi hfr) hr' (fun w' hw' => ?_) (hDw w hm hb) (fun _ hb' => hb hb') ?_
  · have hw := hg.wanted hk
    cases hgg : g with
    | true => exact .inl ⟨by rw [hw, hgg], by simpa [gv] using hv hgg a w' hk hw'⟩
    | false => exact .inr ⟨by rw [hw, hgg], rfl⟩
  · rw [hd]
    exact h _ w (hk.put hn _) hm hs (fun hb' => hb (by rw [← begun_set (l := listed) hki]; exact hb')) (closed_set hcl hr')

theorem D_mem {g : Bool} (hi : ops[i]? = some oi) (hc : chkM ops keep listed i = true) (hbeg : begun keep ops listed = false) (hd : oi.dst = some d) (hn : d < n) (hg : GuardIs ops oi T g) (hv : g = true → OpX P n oi T B v)
    (h : DO P n ops keep B M0 w0 R (listed.setIfInBounds i true) f ((d, gv g v) :: T) M) : DO P n ops keep B M0 w0 R listed (f + 1) T M := by
  simp only [chkM, Bool.and_eq_true] at hc
  obtain ⟨⟨⟨⟨hns, hr⟩, hfr⟩, hki⟩, hall⟩ := hc
  refine D_first (D := Mem B) hi (by simp only [chkP, Bool.and_eq_true]; exact ⟨⟨⟨hns, hr⟩, hfr⟩, hki⟩) (.inr ⟨fun _ h => h, fun t ht hk => ?_⟩) (fun w _ hb => hb hbeg) hd hn hg (fun hgg a w hk hm => hv hgg a w hk hm) h
  have := List.all_eq_true.1 hall t (List.mem_range.2 ht)
  rw [hk] at this
  simpa using this
theorem mem_nil (w : World) : Mem [] w := ⟨fun f hf => (by cases hf), by simp [muts], fun b hb => (by simp [imms] at hb)⟩
theorem D_pure {g : Bool} (hi : ops[i]? = some oi) (hc : chkP ops keep listed i = true) (hd : oi.dst = some d) (hn : d < n) (hg : GuardIs ops oi T g) (hv : g = true → OpX P n oi T [] v)
    (h : DO P n ops keep B M0 w0 R (listed.setIfInBounds i true) f ((d, gv g v) :: T) M) : DO P n ops keep B M0 w0 R listed (f + 1) T M :=
  D_first (D := fun _ => True) hi hc (.inl fun _ => trivial) (fun _ _ _ => trivial) hd hn hg (fun hgg a w hk _ => hv hgg a w hk (mem_nil w)) h
theorem D_mem0 (hi : ops[i]? = some oi) (hc : chkM ops keep listed i = true) (hbeg : begun keep ops listed = false) (hg : oi.guard = none) (hd : oi.dst = some d) (hn : d < n) (hv : OpX P n oi T B v)
    (h : DO P n ops keep B M0 w0 R (listed.setIfInBounds i true) f ((d, v) :: T) M) : DO P n ops keep B M0 w0 R listed (f + 1) T M :=
  D_mem (g := true) hi hc hbeg hd hn (.isNone hg) (fun _ => hv) h
theorem D_pure0 (hi : ops[i]? = some oi) (hc : chkP ops keep listed i = true) (hg : oi.guard = none) (hd : oi.dst = some d) (hn : d < n) (hv : OpX P n oi T [] v)
    (h : DO P n ops keep B M0 w0 R (listed.setIfInBounds i true) f ((d, v) :: T) M) : DO P n ops keep B M0 w0 R listed (f + 1) T M :=
  D_pure (g := true) hi hc hd hn (.isNone hg) (fun _ => hv) h

theorem mem_of_chk1 (hc : chk1 ops listed i = true) : Region.ready .any ops listed = [i] := by
  unfold chk1 at hc
  split at hc
  · rename_i j hj; rw [hj, beq_iff_eq.1 hc]
  · cases hc
/-- The only operation that is ready. -/
theorem D_one (hi : ops[i]? = some oi) (hc : chk1 ops listed i = true) (hg : oi.guard = none) (hn : dstOK n oi.dst)
    (h : OpL P n oi T M (fun v M' => ((keep i && !begun keep ops listed) = true → List.Sublist B M') ∧ DO P n ops keep B M0 w0 R (listed.setIfInBounds i true) f (tput oi.dst v T) M')) : DO P n ops keep B M0 w0 R listed (f + 1) T M := fun a w hk hm hs hb hcl => by
  have hr := mem_of_chk1 hc
  refine ⟨fun h0 => (by rw [hr] at h0; cases h0), fun j hj => ?_⟩
  have hji : j = i := by rw [hr] at hj; simpa using hj
  subst hji
  unfold wpOp
  simp only [hi]
  rw [if_pos (by simp [Region.wanted, hg])]
  refine .inl (h a w hk hm _ _ fun v M' w' hm' hs' ⟨h1, h2⟩ => ⟨fun hk' hb' => hm'.sub (h1 (by rw [hk', hb']; rfl)), ?_⟩)
  refine h2 _ w' ?_ hm' (hs.trans hs') (fun hb' => ?_) (closed_set hcl hj)
  · generalize hd : oi.dst = d' at *
    cases d' with
    | none => exact hk
    | some d => exact hk.put hn v
  · -- begun is still false: then keep i, and it was false
    have hjs : j < ops.size := (Array.getElem?_eq_some_iff.1 hi).1
    cases hkj : keep j with
    | true =>
      rw [begun_set hkj] at hb'
      exact hm'.sub (h1 (by rw [hkj, hb']; rfl))
    | false =>
      have hjun := (mem_ready.1 hj).1
      have hjl : j < listed.size := by
        rcases Nat.lt_or_ge j listed.size with h | h
        · exact h
        · rw [Array.getD_eq_getD_getElem?, Array.getElem?_eq_none h] at hjun; cases hjun
      have : begun keep ops (listed.setIfInBounds j true) = true := List.any_eq_true.2 ⟨j, List.mem_range.2 hjs, by
        rw [hkj]
        simp [Array.getD_eq_getD_getElem?, hjl]⟩
      rw [hb'] at this; cases this
def chk2 (ops : Array Oper) (listed : Array Bool) (i j : Nat) : Bool :=
  match Region.ready .any ops listed with
  | [k, l] => k == i && l == j
  | _ => false
/-- Two operations are ready: either may come first. -/
theorem D_two {j : Nat} {oj : Oper} (hi : ops[i]? = some oi) (hj : ops[j]? = some oj) (hc : chk2 ops listed i j = true) (hg : oi.guard = none) (hg' : oj.guard = none) (hn : dstOK n oi.dst) (hn' : dstOK n oj.dst)
    (h : OpL P n oi T M (fun v M' => ((keep i && !begun keep ops listed) = true → List.Sublist B M') ∧ DO P n ops keep B M0 w0 R (listed.setIfInBounds i true) f (tput oi.dst v T) M'))
    (h' : OpL P n oj T M (fun v M' => ((keep j && !begun keep ops listed) = true → List.Sublist B M') ∧ DO P n ops keep B M0 w0 R (listed.setIfInBounds j true) f (tput oj.dst v T) M')) : DO P n ops keep B M0 w0 R listed (f + 1) T M := fun a w hk hm hs hb hcl => by
  have hr : Region.ready .any ops listed = [i, j] := by
    unfold chk2 at hc
    split at hc
    · rename_i k l hkl
      simp only [Bool.and_eq_true, beq_iff_eq] at hc
      rw [hkl, hc.1, hc.2]
    · cases hc
  have go : ∀ (q : Nat) (oq : Oper), ops[q]? = some oq → q ∈ Region.ready .any ops listed → oq.guard = none → dstOK n oq.dst →
      OpL P n oq T M (fun v M' => ((keep q && !begun keep ops listed) = true → List.Sublist B M') ∧ DO P n ops keep B M0 w0 R (listed.setIfInBounds q true) f (tput oq.dst v T) M') →
      wpOp P ops (Qf n M0 w0 R) q (fun a' w' => (keep q = true → begun keep ops listed = false → Mem B w') ∧ wpAnyV P ops keep (Mem B) (Qf n M0 w0 R) f (listed.setIfInBounds q true) a' w') a w := by
    intro q oq hq hqr hgq hnq hL
    unfold wpOp
    simp only [hq]
    rw [if_pos (by simp [Region.wanted, hgq])]
    refine .inl (hL a w hk hm _ _ fun v M' w' hm' hs' ⟨h1, h2⟩ => ⟨fun hk' hb' => hm'.sub (h1 (by rw [hk', hb']; rfl)), ?_⟩)
    refine h2 _ w' ?_ hm' (hs.trans hs') (fun hb' => ?_) (closed_set hcl hqr)
    · generalize hd : oq.dst = d' at *
      cases d' with
      | none => exact hk
      | some d => exact hk.put hnq v
    · have hjs : q < ops.size := (Array.getElem?_eq_some_iff.1 hq).1
      cases hkj : keep q with
      | true =>
        rw [begun_set hkj] at hb'
        exact hm'.sub (h1 (by rw [hkj, hb']; rfl))
      | false =>
        have hjun := (mem_ready.1 hqr).1
        have hjl : q < listed.size := by
          rcases Nat.lt_or_ge q listed.size with h | h
          · exact h
          · rw [Array.getD_eq_getD_getElem?, Array.getElem?_eq_none h] at hjun; cases hjun
        have : begun keep ops (listed.setIfInBounds q true) = true := List.any_eq_true.2 ⟨q, List.mem_range.2 hjs, by
          rw [hkj]
          simp [Array.getD_eq_getD_getElem?, hjl]⟩
        rw [hb'] at this; cases this
  refine ⟨fun h0 => by rw [hr] at h0; (cases h0), fun q hq => ?_⟩
  have hq' : q = i ∨ q = j := by rw [hr] at hq; simpa using hq
  rcases hq' with rfl | rfl
  · exact go _ oi hi hq hg hn h
  · exact go _ oj hj hq hg' hn' h'
/-- The same for an operation that leaves the memory alone. -/
theorem D_oneV (hi : ops[i]? = some oi) (hc : chk1 ops listed i = true) (hg : oi.guard = none) (hd : oi.dst = some d) (hn : d < n) (hB : (keep i && !begun keep ops listed) = true → List.Sublist B M) (hv : OpV P n oi T M v)
    (h : DO P n ops keep B M0 w0 R (listed.setIfInBounds i true) f ((d, v) :: T) M) : DO P n ops keep B M0 w0 R listed (f + 1) T M :=
  D_one hi hc hg (by rw [hd]; exact hn) fun a w hk hm next Q' hn' => OpL_of_V hv a w hk hm next Q' fun u M' w' h1 h2 ⟨e1, e2⟩ => by
    subst e1; subst e2
    exact hn' _ _ w' h1 h2 ⟨hB, by rw [hd]; exact h⟩
theorem D_end (hc : (Region.ready .any ops listed).isEmpty = true) (h : R T M) : DO P n ops keep B M0 w0 R listed f T M := fun a w hk hm hs hb hcl => by
  have hr : Region.ready .any ops listed = [] := List.isEmpty_iff.1 hc
  have hq : Qf n M0 w0 R .normal a w := ⟨T, M, hk, hm, hs, rfl, h⟩
  cases f with
  | zero => exact ⟨hr, hq⟩
  | succ f => exact ⟨fun _ => hq, fun j hj => (by rw [hr] at hj; cases hj)⟩

theorem W_regD {id : Nat} {Q : Post} {l : List Oper} (keep : Nat → Bool) (hm : P.follows .mixedOrders = true) (h : ∀ w0, DO P n l.toArray keep M M w0 (Q .normal) (Array.replicate l.toArray.size false) l.toArray.size T M) : W P n (.region id l.toArray true) Q T M := fun a w hk hmm => by
  have hrep : ∀ m j : Nat, (Array.replicate m false).getD j false = false := by
    intro m j
    rcases Nat.lt_or_ge j m with h | h
    · simp [h]
    · simp [h]
  have hcl : closed l.toArray (Array.replicate l.toArray.size false) := fun j oj hj hl => by
    rw [hrep] at hl; cases hl
  have := h w a _ hk (hmm.drawn (w.drawn + 1)) (Step.drawn M w _) (fun _ => hmm.drawn _) hcl
  exact Code.wp_mono (fun e a' w' ⟨T', M', h1, h2, h3, h4, h5⟩ => ⟨T', M', h1, h2, h3, by rw [h4]; exact h5⟩) (wp_region_any hm (wpAny_of_V _ _ _ _ this))
end
end Go.Kw
set_option linter.unusedVariables false
set_option linter.unusedSimpArgs false
namespace Go.Kw

theorem foldl_fill : ∀ (vs : List Value) (k off : Nat) (cs : Array Value), off + k + vs.length ≤ cs.size →
    (vs.zipIdx k).foldl (fun cs x => cs.setIfInBounds (off + x.2) x.1) cs = (cs.toList.take (off + k) ++ vs ++ cs.toList.drop (off + k + vs.length)).toArray
  | [], k, off, cs, _ => by simp
  | v :: rest, k, off, cs, h => by
    have hlen : off + (k + 1) + rest.length ≤ (cs.setIfInBounds (off + k) v).size := by simp at h ⊢; omega
    rw [List.zipIdx_cons, List.foldl_cons, foldl_fill rest (k + 1) off _ hlen]
    congr 1
    have e := list_seg_step cs.toList (off + k) v rest (by simp at h ⊢; omega)
    simpa [Array.toList_setIfInBounds, Nat.add_assoc] using e

theorem fill_one {place : Nat → Option (Nat × Nat)} {cs : Array Value} {i off : Nat} {v : Value} {vs : List Value} {rest : List (Nat × Value)} (hp : place i = some (off, vs.length)) (hv : v.cells = vs.toArray) (hl : off + vs.length ≤ cs.size) :
    Instr.fill place cs ((i, v) :: rest) = Instr.fill place (cs.toList.take off ++ vs ++ cs.toList.drop (off + vs.length)).toArray rest := by
  have hf := foldl_fill vs 0 off cs (by omega)
  have hz : v.cells.zipIdx.toList = vs.zipIdx 0 := by rw [hv]; simp
  conv => lhs; unfold Instr.fill
  simp only [hp]
  rw [if_neg (by rw [hv]; simp; omega)]
  rw [← Array.foldl_toList, hz]
  have : (fun (cs : Array Value) (x : Value × Nat) => match x with | (c, j) => cs.setIfInBounds (off + j) c) = (fun cs x => cs.setIfInBounds (off + x.2) x.1) := by
    funext cs x; rfl
  rw [this, hf]
  simp

/-- Fields of a struct, given one by one. -/
abbrev Parts (fs : List Ty) := List (Σ j : Nat, El (fget fs j))
def setF (fs : List Ty) (x : Els fs) (ds : Parts fs) : Els fs := ds.foldl (fun x d => fset fs x d.1 d.2) x
def okF (fs : List Ty) : Parts fs → Prop
  | [] => True
  | d :: r => d.1 < fs.length ∧ wf (fget fs d.1) d.2 ∧ okF fs r
theorem fill_struct {place : Nat → Option (Nat × Nat)} {fs : List Ty} (hp : ∀ j, j < fs.length → place j = some (foff fs j, (fget fs j).size)) :
    ∀ (ds : Parts fs) (x : Els fs), wfs fs x → okF fs ds → Instr.fill place (cellss fs x).toArray (ds.map fun d => (d.1, enc (fget fs d.1) d.2)) = some (cellss fs (setF fs x ds)).toArray ∧ wfs fs (setF fs x ds)
  | [], x, hw, _ => ⟨rfl, hw⟩
  | d :: r, x, hw, ⟨h1, h2, h3⟩ => by
    obtain ⟨g1, g2, g3, g4⟩ := cellss_field fs x hw d.1 h1
    obtain ⟨k1, k2⟩ := g4 d.2 h2
    have hl := cellss_length fs x hw
    have hlu := cells_length _ d.2 h2
    have ih := fill_struct hp r (fset fs x d.1 d.2) k1 h3
    have e : setF fs x (d :: r) = setF fs (fset fs x d.1 d.2) r := rfl
    rw [e]
    refine ⟨?_, ih.2⟩
    rw [List.map_cons, fill_one (off := foff fs d.1) (vs := cells (fget fs d.1) d.2) (by rw [hp _ h1, hlu]) (enc_cells _ _) (by rw [hlu]; simp [hl]; exact g2)]
    rw [← ih.1, k2, hlu]

structure BuildOK (P : Program) (tid : TypeId) (fs : List Ty) : Prop where
  h : ∃ it fields, P.info? tid = some it ∧ it.zero = some (enc (.st fs) (zeros fs)) ∧ P.underlying tid = some (.struct fields) ∧
    fields.toList.mapM (fun f => (P.info? f.type).map fun i => (f.offset, i.size)) = some ((List.range fs.length).map fun j => (foff fs j, (fget fs j).size))

section
variable {P : Program} {n : Nat} {T : Tm} {M : List Fact} {o : Oper} {v w1 w2 w3 : Value} {x y z : Operand} {b tid tidb : Nat} {t : Ty} {p : List PS}

def partsL (T : Tm) : List (Nat × Operand) → Option (List (Nat × Value))
  | [] => some []
  | (i, x) :: r => match look T x, partsL T r with
    | some v, some vs => some ((i, v) :: vs)
    | _, _ => none
theorem Knows.parts {a : Act} (hk : Knows n T a) : ∀ {l : List (Nat × Operand)} {vs : List (Nat × Value)}, partsL T l = some vs → l.map (fun q => (q.1, a.eval q.2)) = vs
  | [], vs, h => by simp [partsL] at h; subst h; rfl
  | (i, x) :: r, vs, h => by
    simp only [partsL] at h
    split at h
    · rename_i v vs' h1 h2
      cases h
      rw [List.map_cons, hk.eval h1, hk.parts h2]
    · cases h

theorem run_build_st {fs : List Ty} (hb : BuildOK P tid fs) (ds : Parts fs) (hok : okF fs ds) (w : World) :
    (Instr.build tid (ds.map fun d => (d.1, enc (fget fs d.1) d.2)).toArray).run P w = .ok (enc (.st fs) (setF fs (zeros fs) ds)) w := by
  obtain ⟨it, fields, h1, h2, h3, h4⟩ := hb.h
  have hfill := (fill_struct (place := fun x => ((List.range fs.length).map fun j => (foff fs j, (fget fs j).size)).toArray[x]?) (fs := fs) (fun j hj => by simp [hj]) ds (zeros fs) (wfs_zeros fs) hok).1
  refine run_build w tid _ _ ?_
  unfold Program.built
  simp only [h1, h3, h2, h4]
  have : (enc (.st fs) (zeros fs)).cells = (cellss fs (zeros fs)).toArray := rfl
  rw [this]
  simpa using hfill

theorem ov_build {fs : List Ty} {ps : List (Nat × Operand)} {ds : Parts fs} {X : Els fs} (ho : o.op = .build tid ps.toArray) (hps : partsL T ps = some (ds.map fun d => (d.1, enc (fget fs d.1) d.2))) (hb : BuildOK P tid fs) (hok : okF fs ds) (hX : setF fs (zeros fs) ds = X) :
    OpX P n o T M (enc (.st fs) X) := ov_run fun a w hk hm => by
  unfold execOp; simp only [ho]
  have e : (ps.toArray.map fun (i, x) => (i, a.eval x)) = (ds.map fun d => (d.1, enc (fget fs d.1) d.2)).toArray := by
    rw [← hk.parts hps]
    simp
  simp only [e, Sem.run_bind, run_build_st hb ds hok, hX, Result.andThen_ok, Sem.run_pure]

/-! arrays given whole or in part -/
abbrev PartsA (t : Ty) := List (Nat × El t)
def setA (t : Ty) (xs : List (El t)) (ds : PartsA t) : List (El t) := ds.foldl (fun xs d => xs.set d.1 d.2) xs
def okA (m : Nat) (t : Ty) : PartsA t → Prop
  | [] => True
  | d :: r => d.1 < m ∧ wf t d.2 ∧ okA m t r
theorem fill_arr {m : Nat} {t : Ty} : ∀ (ds : PartsA t) (xs : List (El t)), xs.length = m → (∀ x ∈ xs, wf t x) → okA m t ds →
    Instr.fill (fun i => some (i * t.size, t.size)) (flatl t xs).toArray (ds.map fun d => (d.1, enc t d.2)) = some (flatl t (setA t xs ds)).toArray ∧ (setA t xs ds).length = m ∧ ∀ x ∈ setA t xs ds, wf t x
  | [], xs, hl, hw, _ => ⟨rfl, hl, hw⟩
  | d :: r, xs, hl, hw, ⟨h1, h2, h3⟩ => by
    obtain ⟨g1, g2, g3, g4⟩ := flat_elem (zero t) xs hw d.1 (hl ▸ h1)
    obtain ⟨k1, k2⟩ := g4 d.2 h2
    have hlen := flat_length xs hw
    have hlu := cells_length _ d.2 h2
    have ih := fill_arr r (xs.set d.1 d.2) (by simpa using hl) k1 h3
    have e : setA t xs (d :: r) = setA t (xs.set d.1 d.2) r := rfl
    rw [e]
    refine ⟨?_, ih.2⟩
    rw [List.map_cons, fill_one (off := d.1 * t.size) (vs := cells t d.2) (by rw [hlu]) (enc_cells _ _) (by rw [hlu]; simp [flatl, hlen]; exact g2)]
    rw [← ih.1, hlu]
    congr 2
    exact k2.symm
structure BuildOKa (P : Program) (tid : TypeId) (m : Nat) (t : Ty) : Prop where
  h : ∃ it ie e, P.info? tid = some it ∧ it.zero = some (enc (.ar m t) (List.replicate m (zero t))) ∧ P.underlying tid = some (.array m e) ∧ P.info? e = some ie ∧ ie.size = t.size
theorem ov_buildA {m : Nat} {ps : List (Nat × Operand)} {ds : PartsA t} {X : List (El t)} (ho : o.op = .build tid ps.toArray) (hps : partsL T ps = some (ds.map fun d => (d.1, enc t d.2))) (hb : BuildOKa P tid m t) (hok : okA m t ds) (hX : setA t (List.replicate m (zero t)) ds = X) :
    OpX P n o T M (enc (.ar m t) X) := ov_run fun a w hk hm => by
  unfold execOp; simp only [ho]
  have e : (ps.toArray.map fun (i, x) => (i, a.eval x)) = (ds.map fun d => (d.1, enc t d.2)).toArray := by
    rw [← hk.parts hps]
    simp
  obtain ⟨it, ie, et, h1, h2, h3, h4, h5⟩ := hb.h
  have hz : ∀ x ∈ List.replicate m (zero t), wf t x := fun x hx => by rw [List.eq_of_mem_replicate hx]; exact wf_zero t
  have hfill := (fill_arr (m := m) ds (List.replicate m (zero t)) (by simp) hz hok).1
  have hr : (Instr.build tid (ds.map fun d => (d.1, enc t d.2)).toArray).run P w = .ok (enc (.ar m t) (setA t (List.replicate m (zero t)) ds)) w := by
    refine run_build w tid _ _ ?_
    unfold Program.built
    simp only [h1, h3, h2, h4, h5]
    exact hfill
  simp only [e, Sem.run_bind, hr, hX, Result.andThen_ok, Sem.run_pure]

theorem ResV_cell_tmp {fn : Func} {i j : Nat} {X : El t} (h : fn.results = #[.cell i tid, .tmp j]) (hl : lk T i = some (ptrv b t [])) (hm : Fact.box b tidb t X ∈ M) (hv : encq t X = some w1) (hty : TyOK P tid t) (hl2 : lk T j = some w2) (hw : Value.tuple #[w1, w2] = v) : ResV P n fn T M v := fun a w hk hmm => by
  have hb : w.heap[b]? = some (.cells (cells t X).toArray tidb (0, 0)) ∧ wf t X := hmm.all _ hm
  have h1 := hk.2.2 i _ hl
  have h2 := hk.2.2 j _ hl2
  have hr := run_loadVar_at (P := P) (tid := tid) (off := 0) hb.1 hb.2 (by rw [← cells_length t X hb.2]; simp) hty
  subst hw
  simp [results, h, Array.getD_eq_getD_getElem?, h1, h2, ptrv, offp, asAddr, hr, encq_eq hv]

/-! slices made whole -/
theorem fill_all {t : Ty} : ∀ (xs : List (El t)) (k : Nat) (cs : Array Value), (∀ x ∈ xs, wf t x) → (k + xs.length) * t.size ≤ cs.size →
    Instr.fill (fun i => some (i * t.size, t.size)) cs ((xs.zipIdx k).map fun q => (q.2, enc t q.1)) = some (cs.toList.take (k * t.size) ++ flatl t xs ++ cs.toList.drop ((k + xs.length) * t.size)).toArray
  | [], k, cs, _, _ => by simp [Instr.fill, flatl]
  | x :: r, k, cs, hw, h => by
    have hlu := cells_length t x (hw x (by simp))
    have e1 : (k + 1) * t.size = k * t.size + t.size := by rw [Nat.add_mul, Nat.one_mul]
    have hsz : k * t.size + t.size ≤ cs.size := by
      have : (k + 1) * t.size ≤ (k + (x :: r).length) * t.size := Nat.mul_le_mul_right _ (by simp)
      omega
    rw [List.zipIdx_cons, List.map_cons, fill_one (off := k * t.size) (vs := cells t x) (by rw [hlu]) (enc_cells _ _) (by rw [hlu]; exact hsz)]
    have hlen : (cs.toList.take (k * t.size) ++ cells t x ++ cs.toList.drop (k * t.size + (cells t x).length)).length = cs.size := by
      simp [hlu]; omega
    rw [fill_all r (k + 1) _ (fun y hy => hw y (by simp [hy])) (by
      rw [List.size_toArray, hlen]
      have : k + 1 + r.length = k + (x :: r).length := by simp; omega
      rw [this]; exact h)]
    congr 2
    have l0 : (cs.toList.take (k * t.size) ++ cells t x).length = (k + 1) * t.size := by
      simp [hlu, e1]; omega
    simp only [List.append_assoc] at *
    rw [← List.append_assoc (cs.toList.take _), List.take_append_of_le_length (by rw [l0]; exact Nat.le_refl _), List.take_of_length_le (by rw [l0]; exact Nat.le_refl _)]
    have l1 : k + 1 + r.length = k + (x :: r).length := by simp; omega
    have hd : ∀ (A B : List Value) (q : Nat), A.length ≤ q → (A ++ B).drop q = B.drop (q - A.length) := by
      intro A B q hq
      rw [List.drop_append, List.drop_eq_nil_of_le hq, List.nil_append]
    rw [hd _ _ _ (by rw [l0]; exact Nat.mul_le_mul_right _ (by omega)), l0, List.drop_drop, hlu]
    have e2 : (k + 1 + r.length) * t.size - (k + 1) * t.size = r.length * t.size := by
      rw [Nat.add_mul]; omega
    rw [e2]
    have e3 : k * t.size + t.size + r.length * t.size = (k + (x :: r).length) * t.size := by
      rw [← l1, Nat.add_mul, e1]
    rw [e3]
    simp [flatl, List.append_assoc]

theorem ol_buildSlice {ps : List (Nat × Operand)} {len : Nat} {xs : List (El t)} {e : TypeId} {R : Value → List Fact → Prop} (ho : o.op = .buildSlice tid len ps.toArray) (hps : partsL T ps = some ((xs.zipIdx 0).map fun q => (q.2, enc t q.1))) (hl : xs.length = len)
    (hu : P.underlying tid = some (.slice e)) (hty : TyOK P e t) (hw : ∀ x ∈ xs, wf t x) (hpos : 0 < len * t.size) (hmax : len * t.size ≤ 16777216) (hml : len ≤ maxLen)
    (h : ∀ v, R v (.row v e t xs :: M)) : OpL P n o T M R := fun a w hk hm next Q' hn => by
  subst hl
  have e1 : (ps.toArray.map fun (i, x) => (i, a.eval x)) = ((xs.zipIdx 0).map fun q => (q.2, enc t q.1)).toArray := by
    rw [← hk.parts hps]
    simp
  have hflat := flat_length xs hw
  have hr : (execOp a.eval o).run P w = .ok (.value (.slice (some ⟨w.heap.size, 0, none⟩) xs.length xs.length)) (w.alloc (.cells (flatl t xs).toArray e)) := by
    unfold execOp; simp only [ho, e1]
    have hfill := fill_all xs 0 ((Array.range (xs.length * t.size)).map ((enc t (zero t)).cells[· % (enc t (zero t)).cells.size]!)) hw (by simp)
    simp only [Nat.zero_mul, List.take_zero, List.nil_append, Nat.zero_add] at hfill
    have hdrop : ((Array.range (xs.length * t.size)).map ((enc t (zero t)).cells[· % (enc t (zero t)).cells.size]!)).toList.drop (xs.length * t.size) = [] := List.drop_eq_nil_of_le (by simp)
    rw [hdrop, List.append_nil] at hfill
    have hne : ¬ xs.length * t.size = 0 := by omega
    have hgt : ¬ xs.length * t.size > 2 ^ 24 := by omega
    simp only [Instr.buildSlice, Sem.run_bind, run_underlying hu, Result.andThen_ok, hty.size w, hty.zero w, if_neg hgt, if_neg hne, Sem.run_pure, Sem.run_ite, List.toList_toArray, hfill, newRow, run_newObj_alloc]
  have hsame : ∀ b, b < w.heap.size → (w.alloc (.cells (flatl t xs).toArray e)).heap[b]? = w.heap[b]? := fun b hb => heap_alloc_old w _ hb
  have hsz : w.heap.size ≤ (w.alloc (.cells (flatl t xs).toArray e)).heap.size := by simp
  have hrow : Fact.holds (w.alloc (.cells (flatl t xs).toArray e)).heap (.row (.slice (some ⟨w.heap.size, 0, none⟩) xs.length xs.length) e t xs) :=
    ⟨hw, .inr ⟨w.heap.size, xs.length, (flatl t xs).toArray, rfl, heap_alloc_new w _, Nat.le_refl _, hml, by simp [flatl, hflat], (List.take_of_length_le (by show (flatl t xs).length ≤ _; unfold flatl; rw [hflat]; exact Nat.le_refl _) : (flatl t xs).take (xs.length * t.size) = flatl t xs)⟩⟩
  unfold Oper.wp
  rw [hr, Oper.upon_value]
  refine hn _ _ _ (hm.cons hsz hsame hrow (by simp [Fact.mut, ownL, Value.ownBlock]) (by simp [Fact.mut, ownL, Value.ownBlock]) (by simp [Fact.imm])) (Step.cons hsz hsame (by simp [Fact.mut, ownL, Value.ownBlock]) (by simp [Fact.imm]) rfl rfl rfl) (h _)

/-! append -/
theorem row_own {w : World} {v : Value} {e : Nat} {xs : List (El t)} (h : isRow w.heap v e t xs) : w.ownsRow 0 e t.size v xs.length (flatl t xs) := by
  refine ⟨flat_length xs h.1, ?_⟩
  rcases h.2 with ⟨h1, h2⟩ | ⟨g, cap, cur, h1, h2, h3, h4, h5, h6⟩
  · exact .inl ⟨h1, by rw [h2]; rfl⟩
  · exact .inr ⟨g, cap, cur, h1, Nat.zero_le _, h2, h3, h4, h5, h6⟩
theorem own_row {w : World} {v : Value} {e : Nat} {xs : List (El t)} (hw : ∀ x ∈ xs, wf t x) (h : w.ownsRow 0 e t.size v xs.length (flatl t xs)) : isRow w.heap v e t xs := by
  refine ⟨hw, ?_⟩
  rcases h.2 with ⟨h1, h2⟩ | ⟨g, cap, cur, h1, _, h2, h3, h4, h5, h6⟩
  · exact .inl ⟨h1, List.eq_nil_of_length_eq_zero h2⟩
  · exact .inr ⟨g, cap, cur, h1, h2, h3, h4, h5, h6⟩
theorem cells_of_list {w : World} {v : Value} {ys : List (El t)} (h : isList w.heap v t ys) : (v = .slice none 0 0 ∧ ys = []) ∨ ∃ ad c, v = .slice (some ad) ys.length c ∧ ∀ j u, (flatl t ys)[j]? = some u → w.cell? (ad.add j) = some u := by
  rcases h.2 with h0 | ⟨b, off, cap, cs, tid, fr, rfl, hg, hr⟩
  · exact .inl h0
  · refine .inr ⟨⟨b, off, none⟩, cap, rfl, fun j u hj => ?_⟩
    rw [add_lit, cell_of_row w b (off + j) cs tid fr hg]
    rw [← hr, List.getElem?_take] at hj
    split at hj
    · rw [List.getElem?_drop] at hj; simpa using hj
    · cases hj

structure AppOK (P : Program) (st e : TypeId) (t : Ty) (bytes : Nat) : Prop where
  h : ∃ i, P.underlying st = some (.slice e) ∧ P.info? e = some i ∧ i.zero = some (enc t (zero t)) ∧ i.size = t.size ∧ i.bytes = bytes
  pos : 0 < t.size

theorem ol_append {l1 l2 : List Fact} {xs ys : List (El t)} {u : Value} {e st bytes : Nat} {R : Value → List Fact → Prop} (ho : o.op = .call { callee := .builtin .append, args := #[x, y], argTypes := #[st, st] })
    (hx : look T x = some v) (hy : look T y = some u) (hM : M = l1 ++ .row v e t xs :: l2) (hl : HasList M u t ys) (ha : AppOK P st e t bytes) (hb : (xs.length + ys.length) * bytes ≤ 140737488355328) (hml : xs.length + ys.length ≤ maxLen)
    (h : ∀ v', R v' (l1 ++ .row v' e t (xs ++ ys) :: l2)) : OpL P n o T M R := fun a w hk hm next Q' hn => by
  have hlist := hl w hm
  subst hM
  have hm' := hm.perm (perm_mid l1 l2 _)
  have hrow : isRow w.heap v e t xs := hm'.all (.row v e t xs) (by simp)
  obtain ⟨i, a1, a2, a3, a4, a5⟩ := ha.h
  have hws : ∀ z ∈ xs ++ ys, wf t z := fun z hz => (List.mem_append.1 hz).elim (hrow.1 z) (hlist.1 z)
  have hflat : flatl t (xs ++ ys) = flatl t xs ++ flatl t ys := by simp [flatl]
  have hzs : (enc t (zero t)).cells.size = t.size := by rw [enc_cells]; simp [cells_length t _ (wf_zero t)]
  have main : ∃ v' w', (Builtin.append_ #[st, st] o.type #[v, u]).run P w = .ok v' w' ∧ w'.ownsRow 0 e t.size v' (xs.length + ys.length) (flatl t (xs ++ ys)) ∧ w.grownBy w' v.ownBlock ∧ (∀ k, v'.ownBlock = some k → v.ownBlock = some k ∨ w.heap.size ≤ k) := by
    rcases cells_of_list hlist with ⟨rfl, rfl⟩ | ⟨ad, c, rfl, hc⟩
    · refine ⟨v, w, ?_, by simpa using row_own hrow, ⟨rfl, rfl, rfl, Nat.le_refl _, fun _ _ _ => rfl⟩, fun k hk => .inl hk⟩
      rcases hrow.2 with ⟨rfl, rfl⟩ | ⟨g, cap, cur, rfl, h2, h3, h4, h5, h6⟩
      · simp [Builtin.append_, run_underlying a1, sizeOf, typeInfo, a2, Builtin.lenOf, Builtin.firstCells, loadCells, loadCellsFrom]
      · simp [Builtin.append_, run_underlying a1, sizeOf, typeInfo, a2, Builtin.lenOf, Builtin.firstCells, h3, storeCells]
    · obtain ⟨v', w', hr, h2, h3, h4⟩ := run_append_own (P := P) w 0 st o.type e i (enc t (zero t)) t.size bytes a1 a2 a3 a4 a5 hzs ha.pos v xs.length (flatl t xs) (row_own hrow) ad ys.length c (flatl t ys)
        (flat_length ys hlist.1) hc (fun z hz => by
          obtain ⟨q, hq, hz⟩ := List.mem_flatMap.1 hz
          exact cells_one t q z hz) hml hb (Nat.zero_le _)
      refine ⟨v', w', hr, by rw [hflat]; exact h2, h3, fun k hk => ?_⟩
      rcases Nat.lt_or_ge k w.heap.size with hlt | hge
      · refine .inl ?_
        have a4' := a4.symm
        subst a5
        have hly : (flatl t ys).length = ys.length * i.size := by rw [a4]; exact flat_length ys hlist.1
        have h1y : ∀ z ∈ flatl t ys, z.oneCell' = true := fun z hz => by
          obtain ⟨q, hq, hz⟩ := List.mem_flatMap.1 hz
          exact cells_one t q z hz
        rcases hrow.2 with ⟨rfl, rfl⟩ | ⟨g, cap, cur, rfl, q2, q3, q4, q5, q6⟩
        · by_cases hm0 : ys.length = 0
          · have := h4.2 ⟨rfl, hm0⟩
            rw [this] at hk; simp [Value.ownBlock] at hk
          · have hr2 := run_append_nil (P := P) w st o.type e i (enc t (zero t)) a1 a2 a3 ad ys.length c (flatl t ys) hly hc (by omega) (by simp only [maxLen] at hml; omega) (by simp at hb; omega)
            rw [hr] at hr2
            cases hr2
            simp [Value.ownBlock] at hk
            omega
        · by_cases hroom : xs.length + ys.length ≤ cap
          · have hr2 := run_append_room (P := P) w st o.type e i a1 a2 g xs.length cap cur q2 ad ys.length c (flatl t ys) hly hc h1y hroom (by rw [hly, q5, a4, ← Nat.add_mul]; exact Nat.mul_le_mul_right _ hroom)
            rw [hr] at hr2
            cases hr2
            exact hk
          · have hr2 := run_append_grow (P := P) w st o.type e i (enc t (zero t)) a1 a2 a3 ⟨g, 0, none⟩ xs.length cap (flatl t xs) (by rw [a4]; exact flat_length xs hrow.1)
              ((row_own hrow).cells (g := g) rfl) ad ys.length c (flatl t ys) hly hc (by omega) (by simp only [maxLen] at hml; omega) (growslice_fits (by omega) hb)
            rw [hr] at hr2
            cases hr2
            simp [Value.ownBlock] at hk
            omega
      · exact .inr hge
  obtain ⟨v', w', hr, hown, hg, hfresh⟩ := main
  have hrun : (execOp a.eval o).run P w = .ok (.value v') w' := by
    unfold execOp
    simp only [ho, resolve, invoke, builtin, Sem.run_bind, Sem.run_pure, Result.andThen_ok, List.map_toArray, List.map_cons, List.map_nil, hk.eval hx, hk.eval hy, hr]
  have hrow' : Fact.holds w'.heap (.row v' e t (xs ++ ys)) := own_row hws (by rw [List.length_append]; exact hown)
  have hmutf : (Fact.row v e t xs).mut = ownL v := rfl
  have hsame : ∀ c, c < w.heap.size → c ∉ (Fact.row v e t xs).mut → w'.heap[c]? = w.heap[c]? := fun c hc hn => hg.block c hc (fun e => hn (by rw [hmutf]; unfold ownL; rw [← e]; simp))
  have hmut : ∀ c ∈ (Fact.row v' e t (xs ++ ys)).mut, c ∈ (Fact.row v e t xs).mut ∨ w.heap.size ≤ c := fun c hc => by
    have hc' : v'.ownBlock = some c := by simpa [Fact.mut, ownL] using hc
    rcases hfresh c hc' with h | h
    · exact .inl (by rw [hmutf]; unfold ownL; rw [h]; simp)
    · exact .inr h
  have hnd : (Fact.row v' e t (xs ++ ys)).mut.Nodup := by
    show (ownL v').Nodup
    unfold ownL; cases v'.ownBlock <;> simp
  have g1 : Mem (.row v' e t (xs ++ ys) :: (l1 ++ l2)) w' := hm'.head hg.size hsame hrow' hnd hmut rfl
  have g2 : Step (.row v e t xs :: (l1 ++ l2)) w (.row v' e t (xs ++ ys) :: (l1 ++ l2)) w' := Step.head hg.size hsame hmut rfl hg.os hg.tape hg.output
  unfold Oper.wp
  rw [hrun, Oper.upon_value]
  exact hn _ _ _ (g1.perm (perm_mid l1 l2 _).symm) (((Step.perm (perm_mid l1 l2 _)).trans g2).trans (Step.perm (perm_mid l1 l2 _).symm)) (h v')

theorem ol_ap0 {M : List Fact} {xs ys : List (El t)} {u : Value} {e st bytes : Nat} {R : Value → List Fact → Prop} (ho : o.op = .call { callee := .builtin .append, args := #[x, y], argTypes := #[st, st] })
    (hx : look T x = some v) (hy : look T y = some u) (hl : HasList (.row v e t xs :: M) u t ys) (ha : AppOK P st e t bytes) (hb : (xs.length + ys.length) * bytes ≤ 140737488355328) (hml : xs.length + ys.length ≤ maxLen)
    (h : ∀ v', R v' (.row v' e t (xs ++ ys) :: M)) : OpL P n o T (.row v e t xs :: M) R := ol_append (l1 := []) ho hx hy rfl hl ha hb hml h
theorem ol_ap1 {f0 : Fact} {M : List Fact} {xs ys : List (El t)} {u : Value} {e st bytes : Nat} {R : Value → List Fact → Prop} (ho : o.op = .call { callee := .builtin .append, args := #[x, y], argTypes := #[st, st] })
    (hx : look T x = some v) (hy : look T y = some u) (hl : HasList (f0 :: .row v e t xs :: M) u t ys) (ha : AppOK P st e t bytes) (hb : (xs.length + ys.length) * bytes ≤ 140737488355328) (hml : xs.length + ys.length ≤ maxLen)
    (h : ∀ v', R v' (f0 :: .row v' e t (xs ++ ys) :: M)) : OpL P n o T (f0 :: .row v e t xs :: M) R := ol_append (l1 := [f0]) ho hx hy rfl hl ha hb hml h
theorem ol_ap2 {f0 f1 : Fact} {M : List Fact} {xs ys : List (El t)} {u : Value} {e st bytes : Nat} {R : Value → List Fact → Prop} (ho : o.op = .call { callee := .builtin .append, args := #[x, y], argTypes := #[st, st] })
    (hx : look T x = some v) (hy : look T y = some u) (hl : HasList (f0 :: f1 :: .row v e t xs :: M) u t ys) (ha : AppOK P st e t bytes) (hb : (xs.length + ys.length) * bytes ≤ 140737488355328) (hml : xs.length + ys.length ≤ maxLen)
    (h : ∀ v', R v' (f0 :: f1 :: .row v' e t (xs ++ ys) :: M)) : OpL P n o T (f0 :: f1 :: .row v e t xs :: M) R := ol_append (l1 := [f0, f1]) ho hx hy rfl hl ha hb hml h
theorem ol_ap3 {f0 f1 f2 : Fact} {M : List Fact} {xs ys : List (El t)} {u : Value} {e st bytes : Nat} {R : Value → List Fact → Prop} (ho : o.op = .call { callee := .builtin .append, args := #[x, y], argTypes := #[st, st] })
    (hx : look T x = some v) (hy : look T y = some u) (hl : HasList (f0 :: f1 :: f2 :: .row v e t xs :: M) u t ys) (ha : AppOK P st e t bytes) (hb : (xs.length + ys.length) * bytes ≤ 140737488355328) (hml : xs.length + ys.length ≤ maxLen)
    (h : ∀ v', R v' (f0 :: f1 :: f2 :: .row v' e t (xs ++ ys) :: M)) : OpL P n o T (f0 :: f1 :: f2 :: .row v e t xs :: M) R := ol_append (l1 := [f0, f1, f2]) ho hx hy rfl hl ha hb hml h
theorem ol_ap4 {f0 f1 f2 f3 : Fact} {M : List Fact} {xs ys : List (El t)} {u : Value} {e st bytes : Nat} {R : Value → List Fact → Prop} (ho : o.op = .call { callee := .builtin .append, args := #[x, y], argTypes := #[st, st] })
    (hx : look T x = some v) (hy : look T y = some u) (hl : HasList (f0 :: f1 :: f2 :: f3 :: .row v e t xs :: M) u t ys) (ha : AppOK P st e t bytes) (hb : (xs.length + ys.length) * bytes ≤ 140737488355328) (hml : xs.length + ys.length ≤ maxLen)
    (h : ∀ v', R v' (f0 :: f1 :: f2 :: f3 :: .row v' e t (xs ++ ys) :: M)) : OpL P n o T (f0 :: f1 :: f2 :: f3 :: .row v e t xs :: M) R := ol_append (l1 := [f0, f1, f2, f3]) ho hx hy rfl hl ha hb hml h
/-- A slice that is nil may be taken for a row of its own. -/
theorem W_row {c : Code} {Q : Post} (e : Nat) (t : Ty) (h : W P n c Q T (.row (.slice none 0 0) e t [] :: M)) : W P n c Q T M := fun a w hk hm => by
  have hnew : Fact.holds w.heap (.row (.slice none 0 0) e t []) := ⟨by simp, .inl ⟨rfl, rfl⟩⟩
  have h1 : Mem (.row (.slice none 0 0) e t [] :: M) w := hm.cons (Nat.le_refl _) (fun _ _ => rfl) hnew (by simp [Fact.mut, ownL, Value.ownBlock]) (by simp [Fact.mut, ownL, Value.ownBlock]) (by simp [Fact.imm])
  have h2 : Step M w (.row (.slice none 0 0) e t [] :: M) w := Step.cons (Nat.le_refl _) (fun _ _ => rfl) (by simp [Fact.mut, ownL, Value.ownBlock]) (by simp [Fact.imm]) rfl rfl rfl
  exact Code.wp_mono (fun e a' w' ⟨T', M', g1, g2, g3, g4⟩ => ⟨T', M', g1, g2, h2.trans g3, g4⟩) (h a w hk h1)
end
end Go.Kw
