/- A part of the proof: KwQ6, KwQ7, KwQ8, KwQ9, KwQA, KwQB, KwE1, KwX7, KwV1, KwV2, KwV3. -/
import Derived.Test.YtpakilamdannfaaGreatDoorKh
set_option linter.all false
set_option linter.unusedVariables false
set_option linter.unusedSimpArgs false
set_option linter.unusedSectionVars false
set_option maxRecDepth 20000
set_option linter.unusedVariables false
namespace Go.Kw
theorem mv_ext {m n : Mv} (h1 : mF m = mF n) (h2 : mT m = mT n) (h3 : mP m = mP n) (h4 : mD m = mD n) (h5 : mC m = mC n) : m = n := by
  obtain ⟨a, b, c, d, e, _⟩ := m
  obtain ⟨a', b', c', d', e', _⟩ := n
  simp only [mF, mT, mP, mD, mC] at h1 h2 h3 h4 h5
  subst h1; subst h2; subst h3; subst h4; subst h5; rfl
theorem mem_list13 (p : Pos) (m : Mv) : m ∈ list13 p ↔ thereR p = true ∧ (0 ≤ mF m ∧ mF m < 64) ∧ (0 ≤ mT m ∧ mT m < 64) ∧ m ∈ mvsR p (mF m) (mT m) := by
  unfold list13
  cases ht : thereR p with
  | false => simp
  | true =>
    rw [if_neg (by simp)]
    unfold listI rowR
    simp only [List.mem_flatMap, List.mem_range]
    constructor
    · rintro ⟨a, ha, b, hb, h⟩
      have := mvsR_ok (p := p) (there_tu2 ht) ha hb h
      rw [this.1, this.2.1]
      exact ⟨trivial, by omega, by omega, h⟩
    · rintro ⟨-, h1, h2, h⟩
      refine ⟨(mF m).toNat, by omega, (mT m).toNat, by omega, ?_⟩
      rw [Int.toNat_of_nonneg h1.1, Int.toNat_of_nonneg h2.1]; exact h
theorem is_mem {p : Pos} {m : Mv} : isR p m = true ↔ m ∈ list13 p := by
  rw [mem_list13]
  constructor
  · intro h
    have hr := isR_rng h
    have hm := isR_may h
    unfold isR at h
    cases e : chR p m with
    | true => rw [if_pos e] at h; cases h
    | false =>
      rw [if_neg (by rw [e]; simp)] at h
      unfold chR at e
      simp only [Bool.or_eq_false_iff] at e
      have ht : thereR p = true := by have := e.1.1.1.1.1.1.1; simpa using this
      have hC : mC m = false := e.1.1.1.1.1.1.2
      have hD : mD m = 0 := by have := e.1.1.1.1.1.2; simpa using this
      refine ⟨ht, ⟨hr.1, hr.2.1⟩, ⟨hr.2.2.1, hr.2.2.2.1⟩, ?_⟩
      unfold mvsR
      rw [if_pos hm]
      split
      · rename_i h1
        rw [if_pos h1] at h
        rw [List.mem_singleton]
        exact mv_ext rfl rfl (of_decide_eq_true h) hD hC
      · rename_i h1
        rw [if_neg h1] at h
        have := of_decide_eq_true h
        rw [List.mem_map]
        exact ⟨mP m, this, mv_ext rfl rfl rfl hD.symm hC.symm⟩
  · rintro ⟨ht, h1, h2, h⟩
    have h' := h
    unfold mvsR at h
    split at h
    · rename_i hm
      have h3 : mD m = 0 ∧ mC m = false := by
        split at h
        · rw [List.mem_singleton] at h; rw [h]; exact ⟨rfl, rfl⟩
        · obtain ⟨x, -, e⟩ := List.mem_map.1 h; rw [← e]; exact ⟨rfl, rfl⟩
      have e : chR p m = false := by
        unfold chR
        rw [ht, h3.2, decide_eq_true h3.1, decide_eq_false (show ¬ mF m < 0 by omega), decide_eq_false (show ¬ 63 < mF m by omega), decide_eq_false (show ¬ mT m < 0 by omega), decide_eq_false (show ¬ 63 < mT m by omega), hm]; rfl
      unfold isR
      rw [if_neg (by rw [e]; simp)]
      split at h
      · rename_i h4
        rw [if_pos h4]
        rw [List.mem_singleton] at h
        exact decide_eq_true (by rw [h]; rfl)
      · rename_i h4
        rw [if_neg h4]
        obtain ⟨x, hx, e⟩ := List.mem_map.1 h
        refine decide_eq_true ?_
        rw [← e]; exact hx
    · cases h
theorem of_there (p : Pos) : (ofS p).2 = thereR p := by
  unfold ofS thereR
  by_cases h1 : 1 < tu p <;> by_cases h2 : 9 ≤ vr p
  · rw [decide_eq_true h1, if_pos (by rfl), decide_eq_false (show ¬ tu p < 2 by omega), Bool.and_false]
  · rw [decide_eq_true h1, if_pos (by rfl), decide_eq_false (show ¬ tu p < 2 by omega), Bool.and_false]
  · rw [decide_eq_true h2, if_pos (by simp), decide_eq_false (show ¬ vr p < 9 by omega), Bool.false_and]
  · rw [decide_eq_false h1, decide_eq_false h2, if_neg (by simp), decide_eq_true (show tu p < 2 by omega), decide_eq_true (show vr p < 9 by omega)]; rfl
theorem and_shl {b : BitVec 64} {x : Int} (h0 : 0 ≤ x) (h1 : x < 64) : (!decide (b &&& shlB x = 0#64)) = b.getLsbD x.toNat := by
  cases e : b.getLsbD x.toNat with
  | true =>
    rw [Bool.not_eq_true']
    refine decide_eq_false fun h => and_zero.1 h x.toNat yo e ?_
    rw [shlB_eq h0 h1 yo]; exact decide_eq_true yo
  | false =>
    rw [Bool.not_eq_false']
    refine decide_eq_true (and_zero.2 fun t ht a b' => ?_)
    rw [shlB_eq h0 h1 ht] at b'
    have := of_decide_eq_true b'
    rw [show t = x.toNat by omega, e] at a; cases a
section
variable {p : Pos} (hp : POK p)
include hp
theorem has_is (m : Mv) : hasM m (pseudoL p) = isR p m := by
  rw [pseudo_ref hp, Bool.eq_iff_iff, has_iff, is_mem]
theorem own_empty (ht : tu p ≤ 1) (s : Int) (h : ownR p s (tu p) = false) : ownR p s (1 - tu p) = !emptyR p s := by
  have h0 := hp.tu
  unfold ownR emptyR at *
  by_cases hk : kind (pb p s) = 0
  · rw [decide_eq_true hk]; rfl
  · rw [decide_eq_false hk] at *
    have := kind_c (x := pb p s) (hp.board s.toNat).1 hk
    have hn := of_decide_eq_false (show decide (pb p s / 8 = tu p) = false from h)
    rw [decide_eq_true (show pb p s / 8 = 1 - tu p by omega)]; rfl
theorem taken_ref (m : Mv) : takenP p m = takenR p m := by
  unfold takenP takenR
  rw [of_there, has_is hp]
  cases hi : isR p m with
  | false => rw [if_pos (by simp), if_pos (by rfl)]
  | true =>
    have hr := isR_rng hi
    have ht := hr.2.2.2.2
    have hth : thereR p = true := ((mem_list13 p m).1 (is_mem.1 hi)).1
    have h0 := hp.tu
    rw [hth, if_neg (show ¬ ((!true || !true) = true) by simp), if_neg (show ¬ ((!true) = true) by simp)]
    have hm := may_own (isR_may hi)
    have e1 : (!decide (ofB p (1 - tu p) 0 &&& shlB (mT m) = 0#64)) = !emptyR p (mT m) := by
      rw [and_shl hr.2.2.1 hr.2.2.2.1, own_bit p _ yo, Int.toNat_of_nonneg hr.2.2.1, own_empty hp ht _ hm.2.1]
    rw [e1]
    have e2 : aheadP (1 - tu p) (mT m) = mT m - upR (tu p) := by
      unfold aheadP upR
      by_cases e : tu p = 0
      · rw [if_pos yo, if_pos e]
      · rw [if_neg yo, if_neg e]; omega
    rw [e2]
theorem list13_mP {m : Mv} (h : m ∈ list13 p) : mP m ≤ 6 := by
  have h := ((mem_list13 p m).1 h).2.2.2
  unfold mvsR at h
  split at h
  · split at h
    · rw [List.mem_singleton] at h; rw [h]; show (0 : Int) ≤ 6; decide
    · obtain ⟨x, hx, e⟩ := List.mem_map.1 h
      have : x ≤ 6 := by
        unfold promP at hx
        split at hx
        · simp only [List.mem_cons, List.mem_nil_iff, or_false] at hx; omega
        · split at hx
          · simp only [List.mem_cons, List.mem_nil_iff, or_false] at hx; omega
          · cases hx
      rw [← e]; exact this
  · cases h
end
/-- What a move of the list is. -/
structure Lm (p : Pos) (m : Mv) : Prop extends LMv p m where
  p6 : mP m ≤ 6
  cast : mC m = true → mD m = 0 ∧ mP m = 0 ∧ isAt p (mF m) (tu p) 6 = true ∧ ¬ mF m = mT m ∧ (56 * tu p ≤ mF m ∧ mF m ≤ 56 * tu p + 7) ∧ 56 * tu p ≤ mT m ∧ mT m ≤ 56 * tu p + 7
theorem list14_cast {p : Pos} (hp : POK p) {m : Mv} (h : m ∈ list14 p) : isAt p (mF m) (tu p) 6 = true ∧ ¬ mF m = mT m ∧ (56 * tu p ≤ mF m ∧ mF m ≤ 56 * tu p + 7) ∧ 56 * tu p ≤ mT m ∧ mT m ≤ 56 * tu p + 7 := by
  have key : ∀ side : Int, m ∈ (if (mayC p side).2.2 = true then [castM (mayC p side)] else []) → isAt p (mF m) (tu p) 6 = true ∧ ¬ mF m = mT m ∧ (56 * tu p ≤ mF m ∧ mF m ≤ 56 * tu p + 7) ∧ 56 * tu p ≤ mT m ∧ mT m ≤ 56 * tu p + 7 := fun side h => by
    split at h
    · rename_i hc
      rw [List.mem_singleton] at h; subst h
      unfold mayC at hc ⊢
      split at hc
      · cases hc
      · split at hc
        · cases hc
        · split at hc
          · cases hc
          · split at hc
            · rename_i n1 n2 n3 n4
              rw [if_neg n1, if_neg n2, if_neg n3, if_pos n4]
              have hF := cast_rng (Bool.eq_false_iff.2 n2)
              have h0 := hp.tu
              have hkk := find_at (p := p) (c := tu p) (k := 6) yd yo
              have h3 := Bool.eq_false_iff.2 n3
              unfold mayC2 at h3
              have hr := (Bool.or_eq_false_iff.1 (Bool.or_eq_false_iff.1 h3).1).1
              have hr : isAt p (56 * tu p + castF p side) (tu p) 4 = true := by simpa using hr
              refine ⟨hkk, fun e => ?_, ⟨hF.1, hF.2.1⟩, ?_, ?_⟩
              · have e : find p (tu p) 6 = 56 * tu p + castF p side := e
                rw [← e] at hr
                have k4 := of_decide_eq_true (Bool.and_eq_true_iff.1 hr).1
                have k6 := of_decide_eq_true (Bool.and_eq_true_iff.1 hkk).1
                omega
              · show 56 * tu p ≤ 56 * tu p + castF p side; omega
              · show 56 * tu p + castF p side ≤ 56 * tu p + 7; omega
            · cases hc
    · cases h
  rcases List.mem_append.1 (show m ∈ ([] ++ _) ++ _ from h) with h | h
  · rcases List.mem_append.1 h with h | h
    · cases h
    · exact key 1 h
  · exact key 0 h
theorem allR_lm {p : Pos} (hp : POK p) {m : Mv} (h : m ∈ allR p) : MOK m ∧ Lm p m := by
  have h1 := allR_mem hp h
  refine ⟨h1.1, h1.2, ?_, fun hc => ?_⟩
  · rcases List.mem_append.1 h with h | h
    · rcases List.mem_append.1 h with h | h
      · exact list13_mP hp h
      · have := (list14_ok hp h).2.2.2.2.2; omega
    · have := (list15_ok h).2.2.2.2.2; omega
  · rcases List.mem_append.1 h with h | h
    · rcases List.mem_append.1 h with h | h
      · have := (list13_ok h).2.2.2.2.1; rw [hc] at this; cases this
      · have ho := list14_ok hp h
        exact ⟨ho.2.2.2.1, ho.2.2.2.2.2, list14_cast hp h⟩
    · have := (list15_ok h).2.2.2.2.1; rw [hc] at this; cases this
/-- The same variant, side and clocks. -/
structure Fr (p q : Pos) : Prop where
  v : vr q = vr p
  t : tu q = tu p
  h : hf q = hf p
  f : fl q = fl p
theorem Fr.rfl' (p : Pos) : Fr p p := ⟨rfl, rfl, rfl, rfl⟩
theorem Fr.put {p q : Pos} (h : Fr p q) (i v : Int) : Fr p (putB q i v) := ⟨h.v, h.t, h.h, h.f⟩
theorem Fr.setPk {p q : Pos} (h : Fr p q) (c k x : Int) : Fr p (setPk q c k x) := ⟨h.v, h.t, h.h, h.f⟩
theorem Fr.setPm {p q : Pos} (h : Fr p q) (b : BitVec 64) : Fr p (setPm q b) := ⟨h.v, h.t, h.h, h.f⟩
theorem Fr.setRkR {p q : Pos} (h : Fr p q) (c : Int) (r : List (El i8)) : Fr p (setRkR q c r) := ⟨h.v, h.t, h.h, h.f⟩
theorem Fr.setPg {p q : Pos} (h : Fr p q) (x : Int) : Fr p (setPg q x) := ⟨h.v, h.t, h.h, h.f⟩
theorem side_ref (p : Pos) (hp : POK p) (m : Mv) : sideP p m = sideR p m := by
  have h0 := hp.tu
  unfold sideP sideR
  by_cases h1 : ((decide (1 < tu p) || !mC m) || decide (mF m = mT m)) = true
  · rw [if_pos h1, if_pos (by rw [h1]; rfl)]
  · rw [if_neg h1]
    have h1' := Bool.eq_false_iff.2 h1
    have ht : tu p ≤ 1 := Int.not_lt.1 (of_decide_eq_false (Bool.or_eq_false_iff.1 (Bool.or_eq_false_iff.1 h1').1).1)
    rw [h1']
    have e : (inHome p (mF m) && inHome p (mT m)) = !((((((false || decide (mF m < 0)) || decide (63 < mF m)) || decide (mT m < 0)) || decide (63 < mT m)) || !decide (mF m / 8 = 7 * tu p)) || !decide (mT m / 8 = 7 * tu p)) := by
      unfold inHome
      rw [Bool.eq_iff_iff]
      simp only [Bool.and_eq_true, Bool.not_eq_true', Bool.or_eq_false_iff, Bool.not_eq_false', decide_eq_false_iff_not, decide_eq_true_eq]
      constructor
      · rintro ⟨⟨a, b⟩, c, d⟩
        refine ⟨⟨⟨⟨⟨⟨trivial, ?_⟩, ?_⟩, ?_⟩, ?_⟩, ?_⟩, ?_⟩ <;> omega
      · rintro ⟨⟨⟨⟨⟨⟨-, a⟩, b⟩, c⟩, d⟩, e⟩, f⟩
        refine ⟨⟨?_, ?_⟩, ?_, ?_⟩ <;> omega
    rw [e]
    cases ((((((false || decide (mF m < 0)) || decide (63 < mF m)) || decide (mT m < 0)) || decide (63 < mT m)) || !decide (mF m / 8 = 7 * tu p)) || !decide (mT m / 8 = 7 * tu p)) with
    | true => rfl
    | false =>
      rw [if_pos (by rfl), if_neg (show ¬ (false = true) by simp)]
      by_cases h : mF m < mT m
      · rw [if_pos h, if_pos (decide_eq_true h)]
      · rw [if_neg h, if_neg (by rw [decide_eq_false h]; simp)]
section
variable {p : Pos} {m : Mv} (hp : POK p) (hL : Lm p m)
include hp hL
theorem side_pos (hc : mC m = true) : 0 ≤ sideR p m ∧ sideR p m ≤ 1 := by
  obtain ⟨-, -, -, hne, hF, hT⟩ := hL.cast hc
  have h0 := hp.tu
  have ht := hL.t
  rw [← side_ref p hp]
  unfold sideP
  rw [if_neg (by rw [decide_eq_false (show ¬ 1 < tu p by omega), hc, decide_eq_false hne]; simp), if_pos]
  · split <;> decide
  · unfold inHome
    rw [decide_eq_false (show ¬ mF m - 56 * tu p < 0 by omega), decide_eq_false (show ¬ 7 < mF m - 56 * tu p by omega), decide_eq_false (show ¬ mT m - 56 * tu p < 0 by omega), decide_eq_false (show ¬ 7 < mT m - 56 * tu p by omega)]; rfl
theorem goals_ref (hc : mC m = true) : goalsP p m = (56 * tu p + (goR (sideR p m)).1, 56 * tu p + (goR (sideR p m)).2, true) := by
  have hs := side_pos hp hL hc
  unfold goalsP
  rw [side_ref p hp, if_neg yo]
  have hg := goal_go ⟨(sideR p m).toNat, by omega⟩
  simp only [Int.toNat_of_nonneg hs.1] at hg
  rw [hg.1, hg.2]
theorem men_ref (tk : Int) : menQ p p m tk = menR p m tk := by
  have h0 := hp.tu
  have ht := hL.t
  unfold menQ menR
  cases hc : mC m with
  | true => rw [if_pos rfl, if_pos rfl, goals_ref hp hL hc]
  | false =>
    rw [if_neg (show ¬ (false = true) by simp), if_neg (show ¬ (false = true) by simp)]
    by_cases hd : (!decide (mD m = 0)) = true
    · rw [if_pos hd, if_pos hd]
      have hD := hL.d (ndec hd)
      have e : takeP p (tu p) (mD m) = (setPk p (tu p) (mD m) (pkAt p (tu p) (mD m) - 1), true) := by
        unfold takeP
        rw [if_neg]
        rw [decide_eq_true (show tu p ≤ 1 from ht), decide_eq_true hD.1.1, decide_eq_true hD.1.2, decide_eq_false (show ¬ pkAt p (tu p) (mD m) = 0 by omega)]; simp
      rw [e]
      show putB _ _ (makeP (tu p) (mD m)) = _
      have : makeP (tu p) (mD m) = 8 * tu p + mD m := by unfold makeP; rw [if_neg yo]
      rw [this]
    · rw [if_neg hd, if_neg hd]
      unfold men3 men3r
      have h1 : tu (men1 p tk) = tu p := by unfold men1; split <;> rfl
      have h2 : tu (men2 (men1 p tk) p m) = tu p := h1
      rw [h2]
      by_cases hpz : (!decide (mP m = 0)) = true
      · rw [if_pos hpz, if_pos hpz]
        have := ndec hpz
        have h6 := hL.p6
        have h7 := hL.pr
        have : makeP (tu p) (mP m) = 8 * tu p + mP m := by unfold makeP; rw [if_neg yo]
        rw [this]
      · rw [if_neg hpz, if_neg hpz]
omit hp hL in
theorem Fr_men (tk : Int) : Fr p (menR p m tk) ∧ pm (menR p m tk) = pm p := by
  have f0 := Fr.rfl' p
  unfold menR
  split
  · exact ⟨(((f0.put _ _).put _ _).put _ _).put _ _, rfl⟩
  · split
    · exact ⟨(f0.setPk _ _ _).put _ _, rfl⟩
    · have h1 : Fr p (men1 p tk) ∧ pm (men1 p tk) = pm p := by
        unfold men1; split
        · exact ⟨f0.put _ _, rfl⟩
        · exact ⟨f0, rfl⟩
      unfold men3r; split
      · exact ⟨((h1.1.put _ _).put _ _).put _ _, h1.2⟩
      · exact ⟨(h1.1.put _ _).put _ _, h1.2⟩
end
end Go.Kw
set_option linter.unusedVariables false
namespace Go.Kw
section
variable {p : Pos} {m : Mv} (hp : POK p) (hL : Lm p m)
include hp hL
theorem kindOf_pawn : decide (kindOf p m = 1) = pawnM p m := by
  unfold kindOf pawnM
  by_cases hd : mD m = 0
  · rw [decide_eq_true hd, if_neg (by simp), decide_eq_false (show ¬ mD m = 1 by omega)]; simp
  · rw [decide_eq_false hd, if_pos (by rfl)]; simp
omit hp in
theorem marks_ref {tk : Int} (htk : -1 ≤ tk ∧ tk < 64) : setOf (markF p m tk) 64 = (if 0 ≤ tk then pm p &&& ~~~shlB tk else pm p) &&& ~~~shlB (mF m) := by
  have hF := hL.f
  apply BitVec.eq_of_getLsbD_eq
  intro t ht
  rw [setOf_bit _ 64 t (Nat.le_refl _), decide_eq_true ht, Bool.true_and, BitVec.getLsbD_and, BitVec.getLsbD_not, shlB_eq hF.1 hF.2 ht]
  unfold markF
  rw [bitAt_get _ yo yo, Int.toNat_natCast]
  simp only [ht, decide_true, Bool.true_and]
  congr 1
  split
  · rename_i h0
    rw [BitVec.getLsbD_and, BitVec.getLsbD_not, shlB_eq h0 htk.2 ht]
    simp only [ht, decide_true, Bool.true_and]
  · rename_i h0
    rw [decide_eq_false (show ¬ (t : Int) = tk by omega)]; simp
theorem pocket_ref {q : Pos} (hf : Fr p q) (hpm : pm q = pm p) {tk : Int} (htk : -1 ≤ tk ∧ tk < 64) : pocketQ q p m tk = pocketR p q m tk := by
  have ht := hL.t
  unfold pocketQ pocketR
  rw [hf.v, hpm]
  by_cases h1 : (!decide (vr p = 2) || !decide (mD m = 0)) = true
  · rw [if_pos h1, if_pos h1]
  · rw [if_neg h1, if_neg h1]
    cases hc : mC m with
    | true => rw [if_pos rfl, if_pos rfl, goals_ref hp hL hc]
    | false =>
      rw [if_neg (show ¬ (false = true) by simp), if_neg (show ¬ (false = true) by simp)]
      have e2 : pkt2 q p tk = setPm (pk2 p q tk) (if 0 ≤ tk then pm p &&& ~~~shlB tk else pm p) := by
        unfold pkt2 pk2
        by_cases h0 : 0 ≤ tk
        · rw [if_pos (decide_eq_true h0), if_pos (decide_eq_true h0), if_pos h0]
          have e : addP q (tu q) (pkt1 p tk) = (if ((decide (1 ≤ pkt1 p tk) && decide (pkt1 p tk ≤ 5)) && decide (pkAt q (tu p) (pkt1 p tk) < 255)) = true then setPk q (tu p) (pkt1 p tk) (pkAt q (tu p) (pkt1 p tk) + 1) else q) := by
            unfold addP
            rw [hf.t, decide_eq_true (show tu p ≤ 1 from ht), Bool.true_and]
          have epm : pm (addP q (tu q) (pkt1 p tk)) = pm p := by
            rw [e]; split
            · exact hpm
            · exact hpm
          rw [epm, e]
        · rw [if_neg (by simpa using h0), if_neg (by simpa using h0), if_neg h0, ← hpm]; rfl
      unfold pkt4 pkt3 mk2
      rw [e2, marks_ref hL htk]
      split <;> rfl
omit hL in
theorem Fr_pocket {q : Pos} (hf : Fr p q) (m : Mv) (tk : Int) : Fr p (pocketR p q m tk) := by
  unfold pocketR
  split
  · exact hf
  · split
    · split
      · exact (hf.setPm _).setPm _
      · exact hf
    · refine Fr.setPm ?_ _
      unfold pk2; split
      · split
        · exact hf.setPk _ _ _
        · exact hf
      · exact hf
omit hL hp in
theorem blown_ref {q : Pos} (hq : POK q) {s : Int} (h0 : 0 ≤ s) (h1 : s < 64) : blownB q s = blownR q s := by
  unfold blownB blownR
  rw [if_neg (by rw [decide_eq_false (show ¬ s < 0 by omega), decide_eq_false (show ¬ 64 ≤ s by omega)]; simp)]
  apply BitVec.eq_of_getLsbD_eq
  intro t ht
  rw [setOf_bit _ 64 t (Nat.le_refl _), decide_eq_true ht, Bool.true_and, BitVec.getLsbD_or, shlB_eq h0 h1 ht]
  show ((((kingB s &&& allB q) &&& ~~~ofB q 0 1) &&& ~~~ofB q 1 1).getLsbD t || _) = _
  rw [BitVec.getLsbD_and, BitVec.getLsbD_and, BitVec.getLsbD_and, BitVec.getLsbD_not, BitVec.getLsbD_not, (kingB_b h0 h1 ht).1, ← (kingB_b h0 h1 ht).2, allB_bit q ht, ofB_kind q 0 yd ht, ofB_kind q 1 yd ht]
  simp only [ht, decide_true, Bool.true_and]
  unfold blF isAt
  rw [Bool.or_comm]
  congr 1
  by_cases hk : kind (pb q (t : Int)) = 0
  · rw [decide_eq_true hk]; simp
  · have hc := kind_c (x := pb q (t : Int)) (hq.board t).1 hk
    rw [decide_eq_false hk]
    by_cases hk1 : kind (pb q (t : Int)) = 1
    · rw [decide_eq_true hk1]
      rcases hc with h | h <;> rw [h] <;> simp
    · rw [decide_eq_false hk1]; simp
omit hp hL in
theorem blow_fold (q : Pos) (b : BitVec 64) : (show List Int from bitsOf b).foldl (fun q s => putB q s 0) q = blowTo q b 64 := by
  rw [bitsOf_from 64 0 b rfl (by intro j hj; omega)]
  show (List.map _ (List.filter _ (List.range' 0 64))).foldl _ q = _
  rw [← List.range_eq_range']
  have key : ∀ n : Nat, n ≤ 64 → (((List.range n).filter fun i => b.getLsbD i).map fun i => ((i : Nat) : Int)).foldl (fun q s => putB q s 0) q = blowTo q b n := by
    intro n
    induction n with
    | zero => exact fun _ => rfl
    | succ n ih =>
      intro hn
      rw [List.range_succ, List.filter_append, List.map_append, List.foldl_append, ih yo, blowTo, bitAt_get _ yo yo, Int.toNat_natCast]
      cases h : b.getLsbD n with
      | true => rw [if_pos rfl]; simp [h]
      | false => rw [if_neg (by simp)]; simp [h]
  exact key 64 (Nat.le_refl _)
omit hp hL in
theorem Fr_blow {q : Pos} (hf : Fr p q) (b : BitVec 64) : ∀ n, Fr p (blowTo q b n)
  | 0 => hf
  | n + 1 => by
    rw [blowTo]; split
    · exact (Fr_blow hf b n).put _ _
    · exact Fr_blow hf b n
omit hp hL in
theorem rkAt_row (q : Pos) (c : Int) (j : Nat) : rkAt q c (j : Int) = (show List Int from rkRow q c).getD ((j : Nat) : Int).toNat 0 := rfl
omit hp hL in
theorem rk_other {q : Pos} (hq : POK q) (c : Int) (c0 : 0 ≤ c) (c1 : c ≤ 1) (x : Int) : rkAt (setRk q c 0 x) c 1 = rkAt q c 1 := by
  have hl : (show List (List Int) from q.2.2.2.2.2.1).length = 2 := hq.wf.2.2.2.2.2.1.1
  show ((List.set (show List (List Int) from q.2.2.2.2.2.1) c.toNat (List.set (show List Int from rkRow q c) (0 : Int).toNat x)).getD c.toNat (List.replicate 2 0)).getD 1 0 = (show List Int from rkRow q c).getD 1 0
  have e : (List.set (show List (List Int) from q.2.2.2.2.2.1) c.toNat (List.set (show List Int from rkRow q c) (0 : Int).toNat x)).getD c.toNat (List.replicate 2 0) = List.set (show List Int from rkRow q c) 0 x := by
    rw [List.getD_eq_getElem?_getD, List.getElem?_set_self (by rw [hl]; omega)]; rfl
  rw [e, List.getD_eq_getElem?_getD, List.getElem?_set_ne yd, ← List.getD_eq_getElem?_getD]
omit hp hL in
theorem gone_ref {q : Pos} (hq : POK q) (m : Mv) (tk : Int) {c king f : Int} (c0 : 0 ≤ c) (c1 : c ≤ 1) (k0 : -1 ≤ king) (k1 : king < 64) : rtG m tk q c king f = goneR m tk q c king f := by
  have hm : makeP c 4 = 8 * c + 4 := by unfold makeP; rw [if_neg yo]
  have hi : decide (pb q (56 * c + f) = makeP c 4) = isAt q (56 * c + f) c 4 := by
    rw [hm, rook_piece (x := pb q (56 * c + f)) (hq.board _).1 c0 c1]; rfl
  unfold rtG goneR
  rw [hi]
  by_cases h : king < 56 * c ∨ 56 * c + 7 < king
  · have e1 : (decide (king < 56 * c) || decide (56 * c + 7 < king)) = true := by simpa using h
    have e2 : (decide (king < 0) || !decide (king / 8 = 7 * c)) = true := by
      simp only [Bool.or_eq_true, decide_eq_true_eq, Bool.not_eq_true', decide_eq_false_iff_not]; omega
    rw [e1, Bool.or_assoc (_ || _) (decide (king < 0)), e2]; simp
  · have e1 : (decide (king < 56 * c) || decide (56 * c + 7 < king)) = false := by simpa using h
    have e2 : (decide (king < 0) || !decide (king / 8 = 7 * c)) = false := by
      simp only [Bool.or_eq_false_iff, decide_eq_false_iff_not, Bool.not_eq_false', decide_eq_true_eq]; omega
    rw [e1, Bool.or_assoc (_ || _) (decide (king < 0)), e2]
    cases decide (tk = 56 * c + f) <;> cases (decide (mD m = 0) && decide (mF m = 56 * c + f)) <;> cases isAt q (56 * c + f) c 4 <;> rfl
omit hp hL in
theorem rj_ref {q : Pos} (hq : POK q) (m : Mv) (tk : Int) {c : Int} (c0 : 0 ≤ c) (c1 : c ≤ 1) : rtJ m tk q c 2 = rrJ m tk q c 2 := by
  have hk := find_rng q c 6
  have one : ∀ (r : Pos) (j : Nat), POK r → rkAt r c (j : Int) = rkAt q c (j : Int) → rtSide m tk c (firstB (ofB q c 6)) (rkRow q c) r j = rrSide m tk c (find q c 6) r j := fun r j hr e => by
    unfold rtSide rrSide
    rw [e, rkAt_row, find_first q c yd, gone_ref hr m tk c0 c1 hk.1 hk.2]
  have s0 : rtJ m tk q c 1 = rrJ m tk q c 1 := one q 0 hq rfl
  show rtSide m tk c (firstB (ofB q c 6)) (rkRow q c) (rtJ m tk q c 1) 1 = rrSide m tk c (find q c 6) (rrJ m tk q c 1) 1
  rw [s0]
  refine one _ 1 (POK_rrJ hq m tk c 1) ?_
  show rkAt (rrSide m tk c (find q c 6) q 0) c 1 = rkAt q c 1
  unfold rrSide
  split
  · rfl
  · split
    · exact rk_other hq c c0 c1 _
    · rfl
omit hL in
theorem rights_ref {q : Pos} (hq : POK q) (hf : Fr p q) (m : Mv) (tk : Int) : rightsQ q p m tk = rightsR p q m tk := by
  have e1 : rt1 q p m = rr1 p q m := by
    unfold rt1 rr1 kindOf
    rw [hf.t]
    by_cases hd : mD m = 0
    · rw [decide_eq_true hd, if_neg (show ¬ ((!true) = true) by simp), Bool.and_true, Bool.true_and]
    · rw [decide_eq_false hd, Bool.and_false, Bool.false_and]
  have h1 := POK_rr1 (p := p) hq m
  unfold rightsQ rightsR
  rw [e1]
  show rtJ m tk (rtJ m tk (rr1 p q m) (0 : Nat) 2) (1 : Nat) 2 = rrJ m tk (rrJ m tk (rr1 p q m) (0 : Nat) 2) (1 : Nat) 2
  rw [rj_ref h1 m tk yd yd, rj_ref (POK_rrJ h1 m tk _ 2) m tk yd yd]
omit hp hL in
theorem Fr_rrJ {q : Pos} (hf : Fr p q) (m : Mv) (tk c : Int) : ∀ j, Fr p (rrJ m tk q c j)
  | 0 => hf
  | j + 1 => by
    have ih := Fr_rrJ hf m tk c j
    rw [rrJ, rrSide]
    split
    · exact ih
    · split
      · exact ih.setRkR _ _
      · exact ih
omit hL hp in
theorem Fr_rights {q : Pos} (hf : Fr p q) (m : Mv) (tk : Int) : Fr p (rightsR p q m tk) := by
  have h1 : Fr p (rr1 p q m) := by
    unfold rr1; split
    · exact hf.setRkR _ _
    · exact hf
  show Fr p (rrJ m tk (rrJ m tk (rr1 p q m) ((0 : Nat) : Int) 2) ((1 : Nat) : Int) 2)
  exact Fr_rrJ (Fr_rrJ h1 m tk _ 2) m tk _ 2
theorem pass_ref {q : Pos} (hq : POK q) (hf : Fr p q) : passQ q p m = setPg q (passR p q m) := by
  have h0 := hp.tu
  have ht := hL.t
  have hF := hL.f
  have hT := hL.to
  have hco : (decide (mD m = 0) && mC m) = true → ¬ kind (pb p (mF m)) = 1 := fun h => by
    have hi := (hL.cast (Bool.and_eq_true_iff.1 h).2).2.2.1
    have := of_decide_eq_true (Bool.and_eq_true_iff.1 hi).1
    omega
  unfold passQ passR
  by_cases hd : mD m = 0
  · have hk : kindOf p m = kind (pb p (mF m)) := by unfold kindOf; rw [if_neg (by simpa using hd)]
    rw [hk, hf.t]
    by_cases hk1 : kind (pb p (mF m)) = 1
    · have hc : mC m = false := by
        cases e : mC m with
        | false => rfl
        | true => exact absurd hk1 (hco (by rw [decide_eq_true hd, e]; rfl))
      rw [if_neg (show ¬ ((!decide (mD m = 0) || mC m) || !decide (kind (pb p (mF m)) = 1)) = true by rw [decide_eq_true hd, hc, decide_eq_true hk1]; simp)]
      have hup : upR (tu p) = if tu p = 0 then 8 else -8 := rfl
      have hrk : rankR (tu p) (mF m) = if tu p = 0 then mF m / 8 else 7 - mF m / 8 := rfl
      by_cases hg : mT m = mF m + 2 * upR (tu p) ∧ rankR (tu p) (mF m) = 1
      · rw [if_neg (show ¬ ((!decide (kind (pb p (mF m)) = 1) || !decide (mD m = 0)) || (!decide (mT m - mF m = 16) && !decide (mF m - mT m = 16))) = true by
            rw [decide_eq_true hk1, decide_eq_true hd]
            have : mT m - mF m = 16 ∨ mF m - mT m = 16 := by
              rw [hup] at hg; split at hg <;> omega
            rcases this with h | h
            · rw [decide_eq_true h]; simp
            · rw [decide_eq_true h]; simp),
          if_neg (show ¬ (!decide (mF m / 8 = 7 * tu p + 1) && !decide (mF m / 8 = 7 * tu p - 1)) = true by
            have : mF m / 8 = 7 * tu p + 1 ∨ mF m / 8 = 7 * tu p - 1 := by
              rw [hrk] at hg; split at hg <;> omega
            rcases this with h | h
            · rw [decide_eq_true h]; simp
            · rw [decide_eq_true h]; simp),
          if_neg (show ¬ (!decide (mT m = mF m + 2 * upR (tu p)) || !decide (rankR (tu p) (mF m) = 1)) = true by rw [decide_eq_true hg.1, decide_eq_true hg.2]; simp)]
        have hmid : (mF m + mT m) / 2 = mF m + upR (tu p) := by rw [hg.1]; omega
        have hm64 : 0 ≤ mF m + upR (tu p) ∧ mF m + upR (tu p) < 64 := by
          have := hg.1; have := upR_val (tu p); omega
        rw [hmid]
        have e : (!decide (pawnB (tu p) (mF m + upR (tu p)) &&& ofB (setPg q (-1)) (1 - tu p) 1 = 0#64)) = !okTo (passF p q m) 64 := by
          have hbit : ∀ t : Nat, t < 64 → ((pawnB (tu p) (mF m + upR (tu p))).getLsbD t = true ∧ (ofB (setPg q (-1)) (1 - tu p) 1).getLsbD t = true ↔ passF p q m t = true) := fun t h => by
            have hb := pawnB_b hm64.1 hm64.2 h h0.1 ht
            rw [hb.1, ofB_kind _ _ yd h]
            unfold passF
            have ei : isAt (setPg q (-1)) (t : Int) (1 - tu p) 1 = isAt q (t : Int) (1 - tu p) 1 := rfl
            rw [ei, Bool.and_eq_true]
            constructor
            · rintro ⟨a, b⟩
              refine ⟨b, ?_⟩
              obtain ⟨b1, b2⟩ := Bool.and_eq_true_iff.1 b
              rw [hits_eq, if_pos (of_decide_eq_true b1), of_decide_eq_true b2, hb.2]; exact a
            · rintro ⟨b, a⟩
              refine ⟨?_, b⟩
              obtain ⟨b1, b2⟩ := Bool.and_eq_true_iff.1 b
              rw [hits_eq, if_pos (of_decide_eq_true b1), of_decide_eq_true b2, hb.2] at a; exact a
          congr 1
          rw [Bool.eq_iff_iff, decide_eq_true_eq, and_zero, okTo_iff]
          constructor
          · intro h t ht64
            cases e : passF p q m t with
            | false => rfl
            | true => exact (h t ht64 ((hbit t ht64).2 e).1 ((hbit t ht64).2 e).2).elim
          · intro h t ht64 a b
            have := (hbit t ht64).1 ⟨a, b⟩
            rw [h t ht64] at this; cases this
        rw [e]
        cases okTo (passF p q m) 64 <;> rfl
      · rw [if_pos (show (!decide (mT m = mF m + 2 * upR (tu p)) || !decide (rankR (tu p) (mF m) = 1)) = true by
          simp only [Bool.or_eq_true, Bool.not_eq_true', decide_eq_false_iff_not]
          by_cases a : mT m = mF m + 2 * upR (tu p)
          · exact .inr fun b => hg ⟨a, b⟩
          · exact .inl a)]
        by_cases h1 : ((!decide (kind (pb p (mF m)) = 1) || !decide (mD m = 0)) || (!decide (mT m - mF m = 16) && !decide (mF m - mT m = 16))) = true
        · rw [if_pos h1]
        · rw [if_neg h1, if_pos]
          have h1 := Bool.eq_false_iff.2 h1
          simp only [Bool.or_eq_false_iff, Bool.and_eq_false_iff, Bool.not_eq_false', decide_eq_true_eq] at h1
          simp only [Bool.and_eq_true, Bool.not_eq_true', decide_eq_false_iff_not]
          rw [hup, hrk] at hg
          split at hg <;> (constructor <;> omega)
    · rw [if_pos (by rw [decide_eq_false hk1]; simp), if_pos (by rw [decide_eq_false hk1]; simp)]
  · rw [if_pos (by rw [decide_eq_false hd]; simp), if_pos (by rw [decide_eq_false hd]; simp)]
theorem clocks_ref {q : Pos} (hf : Fr p q) : clocksQ (setPg q (passR p q m)) p m (takenR p m) = md8 p m q := by
  have f5 : Fr p (setPg q (passR p q m)) := hf.setPg _
  unfold clocksQ clk3 md8
  have e2 : clk2 (setPg q (passR p q m)) p m (takenR p m) = md7 p m q := by
    unfold clk2 md7 md5
    rw [kindOf_pawn hp hL, f5.h]
  have ht7 : tu (clk2 (setPg q (passR p q m)) p m (takenR p m)) = tu p := (tu_clk2 _ _ _ _).trans f5.t
  have hf7 : fl (clk2 (setPg q (passR p q m)) p m (takenR p m)) = fl p := (fl_clk2 _ _ _ _).trans f5.f
  rw [ht7, hf7, e2]
theorem tu_md8 {q : Pos} (hf : Fr p q) : tu (md8 p m q) = tu p := by
  have f5 : Fr p (setPg q (passR p q m)) := hf.setPg _
  have h7 : tu (md7 p m q) = tu p := by unfold md7 md5; split <;> exact f5.t
  unfold md8; split
  · exact h7
  · exact h7
theorem turn_ref {q : Pos} (hm : MOK m) (hq : POK q) (hf : Fr p q) : turnQ (md8 p m q) = mdE p (md9 p m q) := by
  have h0 := hp.tu
  have ht := hL.t
  have h8 := tu_md8 hp hL (q := q) hf
  have hp9 : POK (md9 p m q) := POK_md9 hp hL.toLMv hq
  unfold turnQ mdE
  rw [h8, show 1 - (1 - tu p) = tu p by omega]
  have ec : checkP (setTu (md8 p m q) (1 - tu p)) (1 - tu p) = refCheck (md9 p m q) (tu (md9 p m q)) := check_ref hp9 (c := 1 - tu p) yo yo
  rw [ec]; rfl
end
theorem made_ref {p : Pos} (hp : POK p) {m : Mv} (h : m ∈ allR p) : madeP p m = madeR p m := by
  obtain ⟨hm, hL⟩ := allR_lm hp h
  have htk := takenR_rng hp m
  have hF1 := Fr_men (p := p) (m := m) (takenR p m)
  have e1 : stepQ p m (takenR p m) 1 = menR p m (takenR p m) := men_ref hp hL _
  have p1 : POK (menR p m (takenR p m)) := POK_menR hp hm hL.toLMv _
  have e2 : stepQ p m (takenR p m) 2 = md2 p m := by
    show pocketQ (stepQ p m (takenR p m) 1) p m (takenR p m) = _
    rw [e1]; exact pocket_ref hp hL hF1.1 hF1.2 htk
  have p2 : POK (md2 p m) := POK_pocketR p1 m _
  have f2 : Fr p (md2 p m) := Fr_pocket hp hF1.1 m _
  have e3 : stepQ p m (takenR p m) 3 = md3 p m := by
    show blowQ (stepQ p m (takenR p m) 2) m (takenR p m) = _
    rw [e2]
    unfold blowQ md3
    rw [f2.v, blow_fold, blown_ref p2 hL.to.1 hL.to.2]
    by_cases hv : vr p = 3
    · by_cases h0 : 0 ≤ takenR p m
      · rw [decide_eq_true hv, decide_eq_false (show ¬ takenR p m < 0 by omega), decide_eq_true h0]; rfl
      · rw [decide_eq_true hv, decide_eq_true (show takenR p m < 0 by omega), decide_eq_false h0]; rfl
    · rw [decide_eq_false hv]; rfl
  have p3 : POK (md3 p m) := POK_md3 hp hm hL.toLMv
  have f3 : Fr p (md3 p m) := by
    unfold md3; split
    · exact Fr_blow f2 _ _
    · exact f2
  have e4 : stepQ p m (takenR p m) 4 = md4 p m := by
    show rightsQ (stepQ p m (takenR p m) 3) p m (takenR p m) = _
    rw [e3]; exact rights_ref hp p3 f3 m _
  have p4 : POK (md4 p m) := POK_rightsR p3 m _
  have f4 : Fr p (md4 p m) := Fr_rights f3 m _
  have e5 : stepQ p m (takenR p m) 5 = setPg (md4 p m) (passR p (md4 p m) m) := by
    show passQ (stepQ p m (takenR p m) 4) p m = _
    rw [e4]; exact pass_ref hp hL p4 f4
  have e6 : stepQ p m (takenR p m) 6 = md8 p m (md4 p m) := by
    show clocksQ (stepQ p m (takenR p m) 5) p m (takenR p m) = _
    rw [e5]; exact clocks_ref hp hL f4
  unfold madeP madeR
  rw [taken_ref hp]
  show turnQ (stepQ p m (takenR p m) 6) = _
  rw [e6]; exact turn_ref hp hL hm p4 f4
end Go.Kw
set_option linter.unusedVariables false
namespace Go.Kw
theorem hasK_ref (p : Pos) (c : Int) : hasK p c = !decide (find p c 6 < 0) := by
  unfold hasK; rw [find_first p c yd]
  by_cases h : find p c 6 < 0
  · rw [decide_eq_true h, decide_eq_false yo]; rfl
  · rw [decide_eq_false h, decide_eq_true yo]; rfl
theorem well_ref {p : Pos} (hp : POK p) {m : Mv} (h : m ∈ allR p) : wellP p m = wlF p m := by
  obtain ⟨hm, hL⟩ := allR_lm hp h
  have h0 := hp.tu
  have ht := hL.t
  have ha : m ∈ allL p := by rw [all_ref hp]; exact h
  have hq : POK (madeR p m) := POK_madeR hp hm hL.toLMv
  unfold wellP wlF leavesR
  rw [move_ok ha, made_ref hp h, royal_ref hp.vr.1 h0.1]
  unfold wellR wellT lastT
  show (if (!true) = true then false else _) = _
  rw [if_neg (by simp)]
  simp only [hasK_ref, check_ref hq (c := tu p) h0.1 ht, check_ref hq (c := 1 - tu p) yo yo]
  cases refRoyal (vr p) (tu p) <;> cases decide (find (madeR p m) (tu p) 6 < 0) <;> cases decide (find (madeR p m) (1 - tu p) 6 < 0) <;> cases decide (vr p = 3) <;> cases refCheck (madeR p m) (tu p) <;> rfl
theorem idx_any (f : Mv → Bool) : ∀ (xs : List Mv) (k : Nat), decide (0 ≤ idxM f xs k) = xs.any f
  | [], k => by simp [idxM]
  | x :: r, k => by
    unfold idxM
    rw [List.any_cons]
    cases h : f x with
    | true => simp
    | false => simpa using idx_any f r (k + 1)
theorem filter_pos (f : Mv → Bool) (xs : List Mv) : decide (0 < ((xs.filter f).length : Int)) = xs.any f := by
  induction xs with
  | nil => rfl
  | cons x r ih =>
    rw [List.filter_cons, List.any_cons]
    cases h : f x with
    | true => simp
    | false => simpa using ih
theorem any_filter (f g : Mv → Bool) (xs : List Mv) : (xs.filter f).any g = xs.any fun m => f m && g m := by
  induction xs with
  | nil => rfl
  | cons x r ih =>
    rw [List.filter_cons, List.any_cons]
    cases h : f x with
    | true => rw [if_pos rfl, List.any_cons, ih]; rfl
    | false => rw [if_neg (by simp), ih]; rfl
theorem not_there_all {p : Pos} (hp : POK p) (h : (!thereR p) = true) : allR p = [] := by
  have h13 : list13 p = [] := list13_n h
  have hc : (decide (1 < tu p) || !castlesP (vr p)) = true := by
    rw [castles_val hp.vr.1]
    unfold thereR at h
    by_cases a : 1 < tu p
    · rw [decide_eq_true a]; rfl
    · rw [decide_eq_true (show tu p < 2 by omega), Bool.and_true] at h
      have : decide (vr p < 9) = false := by simpa using h
      rw [this]; simp
  have m : ∀ side, (mayC p side).2.2 = false := fun side => by unfold mayC; rw [if_pos hc]
  have h14 : list14 p = [] := by
    show (([] ++ (if (mayC p (1 - ((0 : Nat) : Int))).2.2 = true then _ else [])) ++ (if (mayC p (1 - ((1 : Nat) : Int))).2.2 = true then _ else [])) = []
    rw [m, m]; rfl
  have h15 : list15 p = [] := by
    refine list15_n ?_
    unfold thereR at h
    by_cases a : 1 < tu p
    · rw [decide_eq_true a]; rfl
    · rw [decide_eq_true (show tu p < 2 by omega), Bool.and_true] at h
      have : ¬ vr p < 9 := by simpa using h
      rw [decide_eq_false (show ¬ vr p = 2 by omega)]; simp
  unfold allR; rw [h13, h14, h15]; rfl
theorem would_ref {p : Pos} (hp : POK p) : wouldP p = wouldR p := by
  have e1 : (allL p).filter (wellP p) = (allR p).filter (wlF p) := by
    rw [all_ref hp]
    exact List.filter_congr fun m hm => well_ref hp hm
  have e2 : wdL p (allR p).length = (allR p).filter (wlF p) := by unfold wdL; rw [List.take_length]
  have e3 : wdT p (allR p).length = (allR p).filter fun m => wlF p m && wtF p m := by unfold wdT; rw [List.take_length]
  unfold wouldP wouldR
  rw [e1, e2, e3, hasK_ref, Bool.not_not, royal_ref hp.vr.1 hp.tu.1]
  cases ht : thereR p with
  | false =>
    rw [not_there_all hp (by rw [ht]; rfl)]
    rw [if_pos (show (!false || _) = true by rfl)]
    split
    · rfl
    · split <;> rfl
  | true =>
    rw [show (!true || (refRoyal (vr p) (tu p) && decide (find p (tu p) 6 < 0))) = (refRoyal (vr p) (tu p) && decide (find p (tu p) 6 < 0)) from rfl]
    split
    · rfl
    · rw [idx_any, any_filter, filter_pos]
      by_cases h4 : vr p = 4
      · have e : (fun m => wlF p m && wtF p m) = fun m => wlF p m && takesP p m := by
          funext m
          unfold wtF takesP
          rw [decide_eq_true h4, Bool.true_and, taken_ref hp]
        have e5 : ((allR p).filter (wlF p)).filter (takesP p) = (allR p).filter fun m => wlF p m && takesP p m := by
          rw [List.filter_filter]
          congr 1; funext m; rw [Bool.and_comm]
        rw [e, decide_eq_true h4, e5]
      · rw [decide_eq_false h4]; rfl
theorem win_eq {c : Int} (w : Int) (c0 : 0 ≤ c) (c1 : c ≤ 1) : winsP c w = winR c w := by
  unfold winsP winR
  by_cases h : c = 0
  · subst h; rfl
  · have : c = 1 := by omega
    subst this; rfl
theorem noMen_ref (p : Pos) (c : Int) : noMen p c = !menX p c := by
  unfold noMen menX
  rw [Bool.not_not, Bool.eq_iff_iff, okTo_iff, decide_eq_true_eq]
  constructor
  · intro h i hi
    rw [← own_bit p c hi, h]; simp
  · intro h
    apply BitVec.eq_of_getLsbD_eq
    intro t ht
    rw [own_bit p c ht, h t ht]; simp
theorem hill_alls : (List.range 64).all (fun s => decide (andI (shrI 103481868288 ((BitVec.ofInt 64 ((s : Nat) : Int)).toNat : Int)) 1 = 1) == hillR ((s : Nat) : Int)) = true := by decide +kernel
theorem hill_all (s : Nat) (h : s < 64) : decide (andI (shrI 103481868288 ((BitVec.ofInt 64 ((s : Nat) : Int)).toNat : Int)) 1 = 1) = hillR ((s : Nat) : Int) :=
  eq_of_beq (List.all_eq_true.1 hill_alls s (List.mem_range.2 h))
theorem hill_ref (p : Pos) (c : Int) : hillAt p c = hillR (find p c 6) := by
  have hr := find_rng p c 6
  unfold hillAt
  rw [find_first p c yd]
  by_cases h : 0 ≤ find p c 6
  · have := hill_all (find p c 6).toNat yo
    simp only [Int.toNat_of_nonneg h] at this
    rw [this, decide_eq_true h]; rfl
  · rw [decide_eq_false h]
    have : find p c 6 = -1 := by omega
    rw [this]; rfl
theorem goal_ref (p : Pos) (c : Int) : goalAt p c = decide (55 < find p c 6) := by
  unfold goalAt; rw [find_first p c yd]
  by_cases h : 55 < find p c 6
  · rw [decide_eq_true h, decide_eq_true yo]
  · rw [decide_eq_false h, decide_eq_false yo]
theorem okTo_any (f : Mv → Bool) (xs : List Mv) : (!okTo (fun i => f (xs.getD i (zero moveT))) xs.length) = xs.any f := by
  rw [Bool.eq_iff_iff, Bool.not_eq_true', ← Bool.not_eq_true, okTo_iff, List.any_eq_true]
  constructor
  · intro h
    refine Classical.byContradiction fun hn => h fun i hi => ?_
    cases e : f (xs.getD i (zero moveT)) with
    | false => rfl
    | true =>
      refine (hn ⟨_, ?_, e⟩).elim
      rw [List.getD_eq_getElem?_getD, List.getElem?_eq_getElem hi]; exact List.getElem_mem hi
  · rintro ⟨m, hm, hf⟩ h
    obtain ⟨i, hi, e⟩ := List.mem_iff_getElem.1 hm
    have := h i hi
    rw [List.getD_eq_getElem?_getD, List.getElem?_eq_getElem hi] at this
    have e2 : f m = false := by rw [← e]; exact this
    rw [hf] at e2; cases e2
theorem ifd {α : Type} {c : Prop} [Decidable c] (a b : α) (h : ¬ c) : (if decide c = true then a else b) = b := if_neg (by simpa using h)
theorem ify {α : Type} {c : Prop} [Decidable c] (a b : α) (h : c) : (if decide c = true then a else b) = a := if_pos (by simpa using h)
theorem goalR_ref {p : Pos} (hp : POK p) (ht : tu p ≤ 1) : goalR p = racR p := by
  have h0 := hp.tu.1
  unfold goalR racR
  rw [goal_ref, goal_ref, win_eq _ yd yd, win_eq _ yd yd, idx_any, would_ref hp, find_first p 1 yd]
  have e2 : (!okTo (racF p) (wouldR p).length) = (wouldR p).any (comesP (find p 1 6)) := by
    rw [← okTo_any]
    congr 2
  rw [e2]
  by_cases hz : tu p = 0
  · rw [decide_eq_true hz, decide_eq_false (show ¬ tu p = 1 by omega), Bool.false_and]
    split
    · rfl
    · split
      · rfl
      · split
        · rfl
        · rw [if_pos rfl, if_neg (by simp)]
  · rw [decide_eq_false hz, decide_eq_true (show tu p = 1 by omega), Bool.true_and]
    split
    · rfl
    · split
      · rfl
      · split
        · rfl
        · rw [if_neg (by simp)]
theorem won_ref {p : Pos} (hp : POK p) : wonP p = wonR p := by
  have h0 := hp.tu.1
  unfold wonP wonR
  by_cases h9 : 9 ≤ vr p
  · rw [if_pos (by rw [decide_eq_true h9]; rfl), if_pos]
    unfold thereR; rw [decide_eq_false (show ¬ vr p < 9 by omega)]; rfl
  by_cases h1 : 1 < tu p
  · rw [if_pos (by rw [decide_eq_true h1]; simp), if_pos]
    unfold thereR; rw [decide_eq_false (show ¬ tu p < 2 by omega)]; simp
  have ht : thereR p = true := by unfold thereR; rw [decide_eq_true (show vr p < 9 by omega), decide_eq_true (show tu p < 2 by omega)]; rfl
  rw [if_neg (by rw [decide_eq_false h9, decide_eq_false h1]; simp), if_neg (by rw [ht]; simp)]
  have t1 : tu p ≤ 1 := by omega
  by_cases e3 : vr p = 3
  · rw [wonBy_3 e3, ify _ _ e3]
    unfold blownP
    rw [hasK_ref, Bool.not_not, win_eq _ yo yo]
  rw [ifd _ _ e3]
  by_cases e5 : vr p = 5
  · rw [wonBy_5 e5, ify _ _ e5]
    unfold first2 threeCk
    rw [win_eq _ h0 t1, win_eq _ yo yo]
  rw [ifd _ _ e5]
  by_cases e6 : vr p = 6
  · rw [wonBy_6 e6, ify _ _ e6]
    unfold first2
    rw [hill_ref, hill_ref, win_eq _ h0 t1, win_eq _ yo yo]
  rw [ifd _ _ e6]
  by_cases e7 : vr p = 7
  · rw [wonBy_7 e7, ify _ _ e7]
    unfold hordeP
    rw [noMen_ref, win_eq _ yd yd]
  rw [ifd _ _ e7]
  by_cases e4 : vr p = 4
  · rw [wonBy_4 e4, ify _ _ e4]
    unfold first2
    rw [noMen_ref, noMen_ref, win_eq _ h0 t1, win_eq _ yo yo]
  rw [ifd _ _ e4]
  by_cases e8 : vr p = 8
  · rw [wonBy_8 e8, ify _ _ e8]
    exact goalR_ref hp t1
  rw [ifd _ _ e8]
  unfold wonBy
  rw [if_neg e3, if_neg e4, if_neg e5, if_neg e6, if_neg e7, if_neg e8]
theorem legal_ref {p : Pos} (hp : POK p) : legalL p = list17 p := by
  unfold legalL list17; rw [won_ref hp, would_ref hp]
end Go.Kw
set_option linter.unusedVariables false
namespace Go.Kw
/-! ### how many squares a set has -/
def byts (c : Nat) : Nat → Nat
  | 0 => 0
  | k + 1 => 256 * byts c k + c
theorem land_byte {a x : Nat} (c y : Nat) (ha : a < 256) (hx : x < 256) : (256 * c + a) &&& (256 * y + x) = 256 * (c &&& y) + (a &&& x) := by
  apply Nat.eq_of_testBit_eq
  intro j
  have h : a &&& x < 2 ^ 8 := Nat.and_lt_two_pow _ hx
  rw [Nat.testBit_and]
  rw [show 256 = 2 ^ 8 from rfl, Nat.testBit_two_pow_mul_add c ha j, Nat.testBit_two_pow_mul_add y hx j, Nat.testBit_two_pow_mul_add (c &&& y) h j]
  split
  · rw [Nat.testBit_and]
  · rw [Nat.testBit_and]
def sw1 (n m : Nat) : Nat := ((n / 2) &&& m) + (n &&& m)
def sw2 (n m : Nat) : Nat := ((n / 4) &&& m) + (n &&& m)
def sw3 (n m : Nat) : Nat := (n / 16 + n) &&& m
def popB (n : Nat) : Nat := sw3 (sw2 (sw1 n 85) 51) 15
theorem pop_b1 : ∀ n : Fin 256, ∀ e : Fin 2, (128 * e.val + n.val / 2) &&& 85 = (n.val / 2) &&& 85 := by decide +kernel
theorem pop_b2 : ∀ n : Fin 256, ∀ e : Fin 4, (64 * e.val + n.val / 4) &&& 51 = (n.val / 4) &&& 51 := by decide +kernel
theorem pop_b3 : ∀ n : Fin 256, sw1 n.val 85 < 256 ∧ sw2 n.val 51 < 256 ∧ sw2 (sw1 n.val 85) 51 % 16 ≤ 4 ∧ sw2 (sw1 n.val 85) 51 ≤ 68 ∧ popB n.val ≤ 8 ∧ (popB n.val : Int) = cntF (fun j => n.val.testBit j) 8 := by decide +kernel
theorem sw1_step {n : Nat} (N M : Nat) (hn : n < 256) : sw1 (256 * N + n) (256 * M + 85) = 256 * sw1 N M + sw1 n 85 := by
  unfold sw1
  have e : (256 * N + n) / 2 = 256 * (N / 2) + (128 * (N % 2) + n / 2) := by omega
  have hb := pop_b1 ⟨n, hn⟩ ⟨N % 2, by omega⟩
  simp only at hb
  rw [e, land_byte _ _ yo yd, land_byte _ _ hn yd, hb]
  omega
theorem sw2_step {n : Nat} (N M : Nat) (hn : n < 256) : sw2 (256 * N + n) (256 * M + 51) = 256 * sw2 N M + sw2 n 51 := by
  unfold sw2
  have e : (256 * N + n) / 4 = 256 * (N / 4) + (64 * (N % 4) + n / 4) := by omega
  have hb := pop_b2 ⟨n, hn⟩ ⟨N % 4, by omega⟩
  simp only at hb
  rw [e, land_byte _ _ yo yd, land_byte _ _ hn yd, hb]
  omega
theorem and15 (n : Nat) : n &&& 15 = n % 16 := Nat.and_two_pow_sub_one_eq_mod n 4
theorem sw3_step {n : Nat} (N M : Nat) (hn : n ≤ 68) (hN : N % 16 ≤ 4) : sw3 (256 * N + n) (256 * M + 15) = 256 * sw3 N M + sw3 n 15 := by
  unfold sw3
  have e : (256 * N + n) / 16 + (256 * N + n) = 256 * (N / 16 + N) + (16 * (N % 16) + (n / 16 + n)) := by omega
  rw [e, land_byte _ _ yo yd, and15, and15]
  omega
def sw12 (k N : Nat) : Nat := sw2 (sw1 N (byts 85 k)) (byts 51 k)
theorem sw12_step (k N : Nat) : sw12 (k + 1) N = 256 * sw12 k (N / 256) + sw2 (sw1 (N % 256) 85) 51 := by
  have h := pop_b3 ⟨N % 256, by omega⟩
  simp only at h
  unfold sw12
  have e : N = 256 * (N / 256) + N % 256 := by omega
  rw [show byts 85 (k + 1) = 256 * byts 85 k + 85 from rfl, show byts 51 (k + 1) = 256 * byts 51 k + 51 from rfl]
  conv => lhs; rw [e]
  rw [sw1_step _ _ yo, sw2_step _ _ h.1]
theorem sw12_low : ∀ k N : Nat, sw12 k N % 16 ≤ 4
  | 0, N => by
    have : sw12 0 N = 0 := by simp [sw12, sw1, sw2, byts]
    rw [this]; decide
  | k + 1, N => by
    have h := pop_b3 ⟨N % 256, by omega⟩
    simp only at h
    rw [sw12_step]; omega
def swT (k N : Nat) : Nat := sw3 (sw12 k N) (byts 15 k)
theorem swT_step (k N : Nat) : swT (k + 1) N = 256 * swT k (N / 256) + popB (N % 256) := by
  have h := pop_b3 ⟨N % 256, by omega⟩
  simp only at h
  unfold swT
  rw [sw12_step, show byts 15 (k + 1) = 256 * byts 15 k + 15 from rfl, sw3_step _ _ h.2.2.2.1 (sw12_low k _)]
  rfl
theorem cntF_add (f : Nat → Bool) (a : Nat) : ∀ b, cntF f (a + b) = cntF f a + cntF (fun j => f (a + j)) b
  | 0 => by show cntF f a = cntF f a + 0; omega
  | b + 1 => by
    show cntF f (a + b + 1) = _
    have ih := cntF_add f a b
    rw [cntF, cntF]
    split <;> omega
theorem cntF_congr {f g : Nat → Bool} : ∀ {n : Nat}, (∀ i, i < n → f i = g i) → cntF f n = cntF g n
  | 0, _ => rfl
  | n + 1, h => by rw [cntF, cntF, cntF_congr fun i hi => h i yo, h n yo]
def sumB : Nat → Nat → Nat
  | 0, _ => 0
  | k + 1, N => popB (N % 256) + sumB k (N / 256)
theorem sum_cnt : ∀ k N : Nat, (sumB k N : Int) = cntF (fun j => N.testBit j) (8 * k)
  | 0, N => rfl
  | k + 1, N => by
    have h := (pop_b3 ⟨N % 256, by omega⟩).2.2.2.2.2
    simp only at h
    rw [sumB, show 8 * (k + 1) = 8 + 8 * k by omega, cntF_add]
    have e1 : cntF (fun j => N.testBit j) 8 = cntF (fun j => (N % 256).testBit j) 8 := cntF_congr fun i hi => by
      rw [show 256 = 2 ^ 8 from rfl, Nat.testBit_mod_two_pow]; simp [hi]
    have e2 : cntF (fun j => N.testBit (8 + j)) (8 * k) = cntF (fun j => (N / 256).testBit j) (8 * k) := cntF_congr fun i hi => by
      rw [show 256 = 2 ^ 8 from rfl, Nat.testBit_div_two_pow, Nat.add_comm]
    rw [e1, e2, ← h, ← sum_cnt k, Int.natCast_add]
theorem pop_le (n : Nat) (h : n < 256) : popB n ≤ 8 := (pop_b3 ⟨n, h⟩).2.2.2.2.1
theorem swT8 (N : Nat) : ∃ q0 q1 q2 q3 q4 q5 q6 q7 : Nat, q0 ≤ 8 ∧ q1 ≤ 8 ∧ q2 ≤ 8 ∧ q3 ≤ 8 ∧ q4 ≤ 8 ∧ q5 ≤ 8 ∧ q6 ≤ 8 ∧ q7 ≤ 8 ∧
    swT 8 N = 256 * (256 * (256 * (256 * (256 * (256 * (256 * q7 + q6) + q5) + q4) + q3) + q2) + q1) + q0 ∧ sumB 8 N = q0 + (q1 + (q2 + (q3 + (q4 + (q5 + (q6 + (q7 + 0))))))) := by
  have z : ∀ M, swT 0 M = 0 := fun M => by simp [swT, sw12, sw1, sw2, sw3, byts]
  refine ⟨_, _, _, _, _, _, _, _, pop_le _ ?_, pop_le _ ?_, pop_le _ ?_, pop_le _ ?_, pop_le _ ?_, pop_le _ ?_, pop_le _ ?_, pop_le _ ?_, ?_, rfl⟩
  iterate 8 exact Nat.mod_lt _ yd
  rw [swT_step, swT_step, swT_step, swT_step, swT_step, swT_step, swT_step, swT_step, z, Nat.mul_zero, Nat.zero_add]
theorem shr_n (b : BitVec 64) (k : Nat) : (b >>> k).toNat = b.toNat / 2 ^ k := by
  rw [BitVec.toNat_ushiftRight, Nat.shiftRight_eq_div_pow]
theorem div_of {x k lo z : Nat} (h : x = lo + k * z) (hl : lo < k) : x / k = z := by
  rw [h, Nat.add_mul_div_left _ _ yo, Nat.div_eq_of_lt hl, Nat.zero_add]
theorem fs_1 (x q0 q1 q2 q3 q4 q5 q6 q7 : Nat) (h0 : q0 ≤ 8) (h1 : q1 ≤ 8) (h2 : q2 ≤ 8) (h3 : q3 ≤ 8) (h4 : q4 ≤ 8) (h5 : q5 ≤ 8) (h6 : q6 ≤ 8) (h7 : q7 ≤ 8) (h : x = 256 * (256 * (256 * (256 * (256 * (256 * (256 * q7 + q6) + q5) + q4) + q3) + q2) + q1) + q0) : x / 256 = (q1 + 256 * q2 + 65536 * q3 + 16777216 * q4 + 4294967296 * q5 + 1099511627776 * q6 + 281474976710656 * q7) := by
  have h' : x = q0 + 256 * (q1 + 256 * q2 + 65536 * q3 + 16777216 * q4 + 4294967296 * q5 + 1099511627776 * q6 + 281474976710656 * q7) := by omega
  exact div_of h' yo
theorem fs_2 (x q0 q1 q2 q3 q4 q5 q6 q7 : Nat) (h0 : q0 ≤ 8) (h1 : q1 ≤ 8) (h2 : q2 ≤ 8) (h3 : q3 ≤ 8) (h4 : q4 ≤ 8) (h5 : q5 ≤ 8) (h6 : q6 ≤ 8) (h7 : q7 ≤ 8) (h : x = 256 * (256 * (256 * (256 * (256 * (256 * (256 * q7 + q6) + q5) + q4) + q3) + q2) + q1) + q0 + (q1 + 256 * q2 + 65536 * q3 + 16777216 * q4 + 4294967296 * q5 + 1099511627776 * q6 + 281474976710656 * q7)) : x / 65536 = ((q2 + q3) + 256 * (q3 + q4) + 65536 * (q4 + q5) + 16777216 * (q5 + q6) + 4294967296 * (q6 + q7) + 1099511627776 * q7) := by
  have h' : x = ((q0 + q1) + 256 * (q1 + q2)) + 65536 * ((q2 + q3) + 256 * (q3 + q4) + 65536 * (q4 + q5) + 16777216 * (q5 + q6) + 4294967296 * (q6 + q7) + 1099511627776 * q7) := by omega
  exact div_of h' yo
theorem fs_3 (x q0 q1 q2 q3 q4 q5 q6 q7 : Nat) (h0 : q0 ≤ 8) (h1 : q1 ≤ 8) (h2 : q2 ≤ 8) (h3 : q3 ≤ 8) (h4 : q4 ≤ 8) (h5 : q5 ≤ 8) (h6 : q6 ≤ 8) (h7 : q7 ≤ 8) (h : x = 256 * (256 * (256 * (256 * (256 * (256 * (256 * q7 + q6) + q5) + q4) + q3) + q2) + q1) + q0 + (q1 + 256 * q2 + 65536 * q3 + 16777216 * q4 + 4294967296 * q5 + 1099511627776 * q6 + 281474976710656 * q7) + ((q2 + q3) + 256 * (q3 + q4) + 65536 * (q4 + q5) + 16777216 * (q5 + q6) + 4294967296 * (q6 + q7) + 1099511627776 * q7)) : x / 4294967296 = ((q4 + q5 + q6 + q7) + 256 * (q5 + q6 + q7) + 65536 * (q6 + q7) + 16777216 * q7) := by
  have h' : x = ((q0 + q1 + q2 + q3) + 256 * (q1 + q2 + q3 + q4) + 65536 * (q2 + q3 + q4 + q5) + 16777216 * (q3 + q4 + q5 + q6)) + 4294967296 * ((q4 + q5 + q6 + q7) + 256 * (q5 + q6 + q7) + 65536 * (q6 + q7) + 16777216 * q7) := by omega
  exact div_of h' yo
theorem fs_4 (x q0 q1 q2 q3 q4 q5 q6 q7 : Nat) (h0 : q0 ≤ 8) (h1 : q1 ≤ 8) (h2 : q2 ≤ 8) (h3 : q3 ≤ 8) (h4 : q4 ≤ 8) (h5 : q5 ≤ 8) (h6 : q6 ≤ 8) (h7 : q7 ≤ 8) (h : x = 256 * (256 * (256 * (256 * (256 * (256 * (256 * q7 + q6) + q5) + q4) + q3) + q2) + q1) + q0 + (q1 + 256 * q2 + 65536 * q3 + 16777216 * q4 + 4294967296 * q5 + 1099511627776 * q6 + 281474976710656 * q7) + ((q2 + q3) + 256 * (q3 + q4) + 65536 * (q4 + q5) + 16777216 * (q5 + q6) + 4294967296 * (q6 + q7) + 1099511627776 * q7) + ((q4 + q5 + q6 + q7) + 256 * (q5 + q6 + q7) + 65536 * (q6 + q7) + 16777216 * q7)) : x < 9223372036854775808 ∧ x % 128 = (q0 + (q1 + (q2 + (q3 + (q4 + (q5 + (q6 + (q7 + 0)))))))) := by
  refine ⟨by omega, ?_⟩
  have : ∃ t, x = (q0 + (q1 + (q2 + (q3 + (q4 + (q5 + (q6 + (q7 + 0)))))))) + 128 * t := ⟨(x - (q0 + (q1 + (q2 + (q3 + (q4 + (q5 + (q6 + (q7 + 0))))))))) / 128, by omega⟩
  obtain ⟨t, e⟩ := this
  have l : (q0 + (q1 + (q2 + (q3 + (q4 + (q5 + (q6 + (q7 + 0)))))))) < 128 := by omega
  generalize (q0 + (q1 + (q2 + (q3 + (q4 + (q5 + (q6 + (q7 + 0)))))))) = z at e l ⊢
  omega
theorem fin_sum (x q0 q1 q2 q3 q4 q5 q6 q7 : Nat) (h0 : q0 ≤ 8) (h1 : q1 ≤ 8) (h2 : q2 ≤ 8) (h3 : q3 ≤ 8) (h4 : q4 ≤ 8) (h5 : q5 ≤ 8) (h6 : q6 ≤ 8) (h7 : q7 ≤ 8)
    (h : x = 256 * (256 * (256 * (256 * (256 * (256 * (256 * q7 + q6) + q5) + q4) + q3) + q2) + q1) + q0) (x4 x5 x6 : Nat) (e4 : x4 = x + x / 256) (e5 : x5 = x4 + x4 / 65536) (e6 : x6 = x5 + x5 / 4294967296) :
    x4 < 9223372036854775808 ∧ x5 < 9223372036854775808 ∧ x6 < 9223372036854775808 ∧ x6 % 128 = (q0 + (q1 + (q2 + (q3 + (q4 + (q5 + (q6 + (q7 + 0)))))))) := by
  have d1 := fs_1 x q0 q1 q2 q3 q4 q5 q6 q7 h0 h1 h2 h3 h4 h5 h6 h7 h
  have e4' : x4 = 256 * (256 * (256 * (256 * (256 * (256 * (256 * q7 + q6) + q5) + q4) + q3) + q2) + q1) + q0 + (q1 + 256 * q2 + 65536 * q3 + 16777216 * q4 + 4294967296 * q5 + 1099511627776 * q6 + 281474976710656 * q7) := e4.trans (by rw [d1]; exact congrArg (· + (q1 + 256 * q2 + 65536 * q3 + 16777216 * q4 + 4294967296 * q5 + 1099511627776 * q6 + 281474976710656 * q7)) h)
  have d2 := fs_2 x4 q0 q1 q2 q3 q4 q5 q6 q7 h0 h1 h2 h3 h4 h5 h6 h7 e4'
  have e5' : x5 = 256 * (256 * (256 * (256 * (256 * (256 * (256 * q7 + q6) + q5) + q4) + q3) + q2) + q1) + q0 + (q1 + 256 * q2 + 65536 * q3 + 16777216 * q4 + 4294967296 * q5 + 1099511627776 * q6 + 281474976710656 * q7) + ((q2 + q3) + 256 * (q3 + q4) + 65536 * (q4 + q5) + 16777216 * (q5 + q6) + 4294967296 * (q6 + q7) + 1099511627776 * q7) := e5.trans (by rw [d2]; exact congrArg (· + ((q2 + q3) + 256 * (q3 + q4) + 65536 * (q4 + q5) + 16777216 * (q5 + q6) + 4294967296 * (q6 + q7) + 1099511627776 * q7)) e4')
  have d3 := fs_3 x5 q0 q1 q2 q3 q4 q5 q6 q7 h0 h1 h2 h3 h4 h5 h6 h7 e5'
  have e6' : x6 = 256 * (256 * (256 * (256 * (256 * (256 * (256 * q7 + q6) + q5) + q4) + q3) + q2) + q1) + q0 + (q1 + 256 * q2 + 65536 * q3 + 16777216 * q4 + 4294967296 * q5 + 1099511627776 * q6 + 281474976710656 * q7) + ((q2 + q3) + 256 * (q3 + q4) + 65536 * (q4 + q5) + 16777216 * (q5 + q6) + 4294967296 * (q6 + q7) + 1099511627776 * q7) + ((q4 + q5 + q6 + q7) + 256 * (q5 + q6 + q7) + 65536 * (q6 + q7) + 16777216 * q7) := e6.trans (by rw [d3]; exact congrArg (· + ((q4 + q5 + q6 + q7) + 256 * (q5 + q6 + q7) + 65536 * (q6 + q7) + 16777216 * q7)) e5')
  have d4 := fs_4 x6 q0 q1 q2 q3 q4 q5 q6 q7 h0 h1 h2 h3 h4 h5 h6 h7 e6'
  have l5 : x5 ≤ x6 := by rw [e6]; exact Nat.le_add_right _ _
  have l4 : x4 ≤ x5 := by rw [e5]; exact Nat.le_add_right _ _
  exact ⟨Nat.lt_of_le_of_lt (Nat.le_trans l4 l5) d4.1, Nat.lt_of_le_of_lt l5 d4.1, d4.1, d4.2⟩
theorem add_nat {a b : BitVec 64} (h : a.toNat + b.toNat < 18446744073709551616) : (a + b).toNat = a.toNat + b.toNat := by
  rw [BitVec.toNat_add]; exact Nat.mod_eq_of_lt h
theorem sw1_bv (b : BitVec 64) : (((b >>> (1 : Int).toNat) &&& 6148914691236517205#64) + (b &&& 6148914691236517205#64)).toNat = sw1 b.toNat 6148914691236517205 := by
  have e1 : ((b >>> (1 : Int).toNat) &&& 6148914691236517205#64).toNat = (b.toNat / 2) &&& 6148914691236517205 := by
    rw [BitVec.toNat_and, shr_n]; rfl
  have e2 : (b &&& 6148914691236517205#64).toNat = b.toNat &&& 6148914691236517205 := by rw [BitVec.toNat_and]; rfl
  have l1 : (b.toNat / 2) &&& 6148914691236517205 ≤ 6148914691236517205 := Nat.and_le_right
  have l2 : b.toNat &&& 6148914691236517205 ≤ 6148914691236517205 := Nat.and_le_right
  rw [add_nat (by rw [e1, e2]; omega), e1, e2]; rfl
theorem sw2_bv (b : BitVec 64) : (((b >>> (2 : Int).toNat) &&& 3689348814741910323#64) + (b &&& 3689348814741910323#64)).toNat = sw2 b.toNat 3689348814741910323 := by
  have e1 : ((b >>> (2 : Int).toNat) &&& 3689348814741910323#64).toNat = (b.toNat / 4) &&& 3689348814741910323 := by
    rw [BitVec.toNat_and, shr_n]; rfl
  have e2 : (b &&& 3689348814741910323#64).toNat = b.toNat &&& 3689348814741910323 := by rw [BitVec.toNat_and]; rfl
  have l1 : (b.toNat / 4) &&& 3689348814741910323 ≤ 3689348814741910323 := Nat.and_le_right
  have l2 : b.toNat &&& 3689348814741910323 ≤ 3689348814741910323 := Nat.and_le_right
  rw [add_nat (by rw [e1, e2]; omega), e1, e2]; rfl
theorem sw2_le (n : Nat) : sw2 n 3689348814741910323 ≤ 7378697629483820646 := by
  have l1 : (n / 4) &&& 3689348814741910323 ≤ 3689348814741910323 := Nat.and_le_right
  have l2 : n &&& 3689348814741910323 ≤ 3689348814741910323 := Nat.and_le_right
  unfold sw2; omega
theorem sw3_bv (b : BitVec 64) (h : b.toNat ≤ 7378697629483820646) : (((b >>> (4 : Int).toNat) + b) &&& 1085102592571150095#64).toNat = sw3 b.toNat 1085102592571150095 := by
  have e1 : (b >>> (4 : Int).toNat).toNat = b.toNat / 16 := by rw [shr_n]; rfl
  rw [BitVec.toNat_and, add_nat (by rw [e1]; omega), e1]; rfl
theorem sh_bv (b : BitVec 64) (k : Nat) (h : b.toNat + b.toNat / 2 ^ k < 18446744073709551616) : (b + (b >>> k)).toNat = b.toNat + b.toNat / 2 ^ k := by
  rw [add_nat (by rw [shr_n]; exact h), shr_n]
theorem onesF_nat (b : BitVec 64) : (onesF b).toNat < 9223372036854775808 ∧ (onesF b).toNat % 128 = sumB 8 b.toNat := by
  have m1 : byts 85 8 = 6148914691236517205 := by decide
  have m2 : byts 51 8 = 3689348814741910323 := by decide
  have m3 : byts 15 8 = 1085102592571150095 := by decide
  obtain ⟨q0, q1, q2, q3, q4, q5, q6, q7, h0, h1, h2, h3, h4, h5, h6, h7, hT, hS⟩ := swT8 b.toNat
  unfold swT sw12 at hT
  rw [m1, m2, m3] at hT
  have g1 := sw1_bv b
  unfold onesF
  generalize ((b >>> (1 : Int).toNat) &&& 6148914691236517205#64) + (b &&& 6148914691236517205#64) = x1 at g1 ⊢
  have g2 := sw2_bv x1
  rw [← g1] at hT
  simp only
  generalize ((x1 >>> (2 : Int).toNat) &&& 3689348814741910323#64) + (x1 &&& 3689348814741910323#64) = x2 at g2 ⊢
  have g3 := sw3_bv x2 (by rw [g2]; exact sw2_le _)
  rw [← g2] at hT
  generalize ((x2 >>> (4 : Int).toNat) + x2) &&& 1085102592571150095#64 = x3 at g3 ⊢
  rw [← g3] at hT
  obtain ⟨k4, k5, k6, k7⟩ := fin_sum _ q0 q1 q2 q3 q4 q5 q6 q7 h0 h1 h2 h3 h4 h5 h6 h7 hT _ _ _ rfl rfl rfl
  have e4 : (x3 + (x3 >>> (8 : Int).toNat)).toNat = x3.toNat + x3.toNat / 256 := sh_bv x3 8 (Nat.lt_trans k4 yd)
  generalize x3 + (x3 >>> (8 : Int).toNat) = x4 at e4 ⊢
  rw [← e4] at k5 k6 k7
  have e5 : (x4 + (x4 >>> (16 : Int).toNat)).toNat = x4.toNat + x4.toNat / 65536 := sh_bv x4 16 (Nat.lt_trans k5 yd)
  generalize x4 + (x4 >>> (16 : Int).toNat) = x5 at e5 ⊢
  rw [← e5] at k6 k7
  have e6 : (x5 + (x5 >>> (32 : Int).toNat)).toNat = x5.toNat + x5.toNat / 4294967296 := sh_bv x5 32 (Nat.lt_trans k6 yd)
  rw [e6, hS]
  exact ⟨k6, k7⟩
theorem ones_cnt (b : BitVec 64) : onesI b = cntF (fun j => b.getLsbD j) 64 := by
  obtain ⟨h1, h2⟩ := onesF_nat b
  have hs : (sumB 8 b.toNat : Int) = cntF (fun j => b.getLsbD j) 64 := by
    rw [sum_cnt]; rfl
  have hr := cntF_rng (fun j => b.getLsbD j) 64
  unfold onesI andI
  rw [wrap_i64 (show -9223372036854775808 ≤ (((onesF b).toNat : Nat) : Int) ∧ (((onesF b).toNat : Nat) : Int) ≤ 9223372036854775807 by omega)]
  have e1 : (BitVec.ofInt 64 (((onesF b).toNat : Nat) : Int)).toNat = (onesF b).toNat := by
    rw [BitVec.ofInt_natCast, BitVec.toNat_ofNat]; omega
  rw [BitVec.toNat_and, e1, show (BitVec.ofInt 64 127).toNat = 127 from rfl, Nat.and_two_pow_sub_one_eq_mod _ 7]
  show IntKind.i64.wrap (((onesF b).toNat % 128 : Nat) : Int) = _
  rw [h2, hs]
  exact wrap_i64 yo
/-! ### what is left to mate with -/
theorem cntF_zero (f : Nat → Bool) : ∀ n, cntF f n = 0 ↔ ∀ i, i < n → f i = false
  | 0 => ⟨fun _ i hi => by omega, fun _ => rfl⟩
  | n + 1 => by
    have ih := cntF_zero f n
    have hr := cntF_rng f n
    rw [cntF]
    constructor
    · intro h i hi
      split at h
      · omega
      · rename_i hf
        by_cases e : i = n
        · subst e; simpa using hf
        · exact ih.1 h i yo
    · intro h
      rw [if_neg (by rw [h n yo]; simp)]
      exact ih.2 fun i hi => h i yo
theorem cls_le (p : Pos) (i : Nat) : clsR p i ≤ 5 := by
  unfold clsR; repeat' split
  all_goals decide
theorem cnt_men (p : Pos) : ∀ n, cntF (fun i => decide (2 ≤ clsR p i)) n = ((cntC p 5 n + cntC p 2 n) + cntC p 3 n) + cntC p 4 n
  | 0 => rfl
  | n + 1 => by
    have ih := cnt_men p n
    have hc := cls_le p n
    unfold cntC at ih ⊢
    rw [cntF, cntF, cntF, cntF, cntF]
    have : clsR p n = 0 ∨ clsR p n = 1 ∨ clsR p n = 2 ∨ clsR p n = 3 ∨ clsR p n = 4 ∨ clsR p n = 5 := by omega
    rcases this with e | e | e | e | e | e <;> simp only [e] <;> simp <;> omega
section
variable {p : Pos} (hp : POK p)
include hp
theorem both_bit {k : Int} (hk : ¬ k = 0) {i : Nat} (hi : i < 64) : (bothB p k).getLsbD i = decide (kind (pb p (i : Int)) = k) := by
  unfold bothB
  rw [BitVec.getLsbD_or, ofB_kind p 0 hk hi, ofB_kind p 1 hk hi]
  unfold isAt
  by_cases h : kind (pb p (i : Int)) = k
  · rw [decide_eq_true h]
    have := kind_c (x := pb p (i : Int)) (hp.board _).1 (by rw [h]; exact hk)
    rcases this with e | e <;> rw [e] <;> rfl
  · rw [decide_eq_false h]; rfl
theorem men_bit {i : Nat} (hi : i < 64) : (menB p).getLsbD i = decide (2 ≤ clsR p i) := by
  unfold menB
  rw [BitVec.getLsbD_and, BitVec.getLsbD_not, allB_bit p hi, both_bit hp yd hi]
  simp only [hi, decide_true, Bool.true_and]
  unfold clsR
  by_cases h0 : kind (pb p (i : Int)) = 0
  · rw [if_pos h0, decide_eq_true h0]; rfl
  rw [if_neg h0, decide_eq_false h0]
  by_cases h6 : kind (pb p (i : Int)) = 6
  · rw [if_pos h6, decide_eq_true h6]; rfl
  rw [if_neg h6, decide_eq_false h6]
  repeat' split
  all_goals rfl
theorem bish_bit {i : Nat} (hi : i < 64) : (bothB p 3).getLsbD i = (decide (clsR p i = 3) || decide (clsR p i = 4)) := by
  rw [both_bit hp yd hi]
  unfold clsR
  by_cases h : kind (pb p (i : Int)) = 3
  · rw [if_neg yo, if_neg yo, if_neg yo, if_pos h, decide_eq_true h]
    split <;> rfl
  · rw [decide_eq_false h, if_neg h]
    repeat' split
    all_goals rfl
theorem knig_bit {i : Nat} (hi : i < 64) : (bothB p 2).getLsbD i = decide (clsR p i = 2) := by
  rw [both_bit hp yd hi]
  unfold clsR
  by_cases h : kind (pb p (i : Int)) = 2
  · rw [if_neg yo, if_neg yo, if_pos h, decide_eq_true h]; rfl
  · rw [decide_eq_false h, if_neg h]
    repeat' split
    all_goals rfl
omit hp in
theorem light_bit : ∀ i : Fin 64, lightB.getLsbD i.val = decide (((i.val : Nat) : Int) / 8 % 2 ≠ ((i.val : Nat) : Int) % 8 % 2) := by decide +kernel
omit hp in
theorem cls_light {i : Nat} (hi : i < 64) : (clsR p i = 3 → lightB.getLsbD i = false) ∧ (clsR p i = 4 → lightB.getLsbD i = true) := by
  have hl := light_bit ⟨i, hi⟩
  simp only at hl
  rw [hl]
  unfold clsR
  constructor
  · intro h
    split at h
    · cases h
    · split at h
      · cases h
      · split at h
        · cases h
        · split at h
          · split at h
            · exact decide_eq_false yo
            · cases h
          · cases h
  · intro h
    split at h
    · cases h
    · split at h
      · cases h
      · split at h
        · cases h
        · split at h
          · split at h
            · cases h
            · exact decide_eq_true yo
          · cases h
theorem ones_men : onesI (menB p) = ((cntC p 5 64 + cntC p 2 64) + cntC p 3 64) + cntC p 4 64 := by
  rw [ones_cnt, ← cnt_men]
  exact cntF_congr fun i hi => men_bit hp hi
omit hp in
theorem cnt0 (c : Nat) : cntC p c 64 = 0 ↔ ∀ i, i < 64 → ¬ clsR p i = c := by
  unfold cntC
  rw [cntF_zero]
  exact ⟨fun h i hi => of_decide_eq_false (h i hi), fun h i hi => decide_eq_false (h i hi)⟩
theorem others_ref : decide ((menB p &&& ~~~bothB p 3) &&& ~~~bothB p 2 = 0#64) = decide (cntC p 5 64 = 0) := by
  rw [decide_eq_decide, cnt0]
  have hb : ∀ i, i < 64 → ((menB p &&& ~~~bothB p 3) &&& ~~~bothB p 2).getLsbD i = decide (clsR p i = 5) := fun i hi => by
    rw [BitVec.getLsbD_and, BitVec.getLsbD_and, BitVec.getLsbD_not, BitVec.getLsbD_not, men_bit hp hi, bish_bit hp hi, knig_bit hp hi]
    have := cls_le p i
    simp only [hi, decide_true, Bool.true_and]
    have : clsR p i = 0 ∨ clsR p i = 1 ∨ clsR p i = 2 ∨ clsR p i = 3 ∨ clsR p i = 4 ∨ clsR p i = 5 := by omega
    rcases this with e | e | e | e | e | e <;> rw [e] <;> rfl
  constructor
  · intro h i hi e
    have := hb i hi
    rw [h, decide_eq_true e] at this
    simp at this
  · intro h
    apply BitVec.eq_of_getLsbD_eq
    intro i hi
    rw [hb i hi, decide_eq_false (h i hi)]; simp
theorem few_ref (h5 : cntC p 5 64 = 0) : fewP p = fewR p := by
  have n5 := (cnt0 5).1 h5
  unfold fewP fewR
  rw [ones_men hp, h5, show (0 : Int) + cntC p 2 64 + cntC p 3 64 + cntC p 4 64 = cntC p 2 64 + cntC p 3 64 + cntC p 4 64 by omega, show decide ((0 : Int) = 0) = true from rfl, Bool.true_and]
  congr 1
  have e1 : menB p = bothB p 3 ↔ cntC p 2 64 = 0 := by
    rw [cnt0]
    constructor
    · intro h i hi e
      have a := men_bit hp hi
      rw [h, bish_bit hp hi, e] at a
      cases a
    · intro h
      apply BitVec.eq_of_getLsbD_eq
      intro i hi
      rw [men_bit hp hi, bish_bit hp hi]
      have h2 := h i hi
      have h5 := n5 i hi
      have := cls_le p i
      have : clsR p i = 0 ∨ clsR p i = 1 ∨ clsR p i = 3 ∨ clsR p i = 4 := by omega
      rcases this with e | e | e | e <;> rw [e] <;> rfl
  by_cases h2 : cntC p 2 64 = 0
  · have hm := e1.2 h2
    have n2 := (cnt0 2).1 h2
    have cl : ∀ i, i < 64 → (menB p).getLsbD i = (decide (clsR p i = 3) || decide (clsR p i = 4)) := fun i hi => by rw [hm]; exact bish_bit hp hi
    have e3 : menB p &&& lightB = 0#64 ↔ cntC p 4 64 = 0 := by
      rw [cnt0, and_zero]
      constructor
      · intro h i hi e
        exact h i hi (by rw [cl i hi, e]; rfl) ((cls_light hi).2 e)
      · intro h i hi a b
        rw [cl i hi] at a
        have h4 := h i hi
        rw [decide_eq_false h4, Bool.or_false, decide_eq_true_eq] at a
        rw [(cls_light hi).1 a] at b; cases b
    have e4 : menB p &&& ~~~lightB = 0#64 ↔ cntC p 3 64 = 0 := by
      rw [cnt0, and_zero]
      constructor
      · intro h i hi e
        refine h i hi (by rw [cl i hi, e]; rfl) ?_
        rw [BitVec.getLsbD_not, (cls_light hi).1 e]; simp [hi]
      · intro h i hi a b
        rw [cl i hi] at a
        have h3 := h i hi
        rw [decide_eq_false h3, Bool.false_or, decide_eq_true_eq] at a
        rw [BitVec.getLsbD_not, (cls_light hi).2 a] at b
        simp at b
    rw [decide_eq_true hm, decide_eq_true h2, decide_eq_decide.2 e3, decide_eq_decide.2 e4, Bool.or_comm]
  · rw [decide_eq_false h2, decide_eq_false (fun h => h2 (e1.1 h))]; rfl
theorem kg_ref {c : Int} : onesI (ofB p c 6) = cntF (kgF p c) 64 := by
  rw [ones_cnt]
  refine cntF_congr fun i hi => ?_
  rw [ofB_kind p c yd hi]
  unfold kgF isAt clsR
  by_cases h6 : kind (pb p (i : Int)) = 6
  · rw [decide_eq_true h6, if_neg yo, if_pos h6]; rfl
  · rw [decide_eq_false h6]
    by_cases h0 : kind (pb p (i : Int)) = 0
    · rw [if_pos h0]; rfl
    · rw [if_neg h0, if_neg h6]
      repeat' split
      all_goals rfl
theorem kings_ref : kingsP p = oneR2 p := by
  unfold kingsP oneR2
  have e1 : allB p = ofB p 0 6 ||| ofB p 1 6 ↔ ((cntC p 5 64 + cntC p 2 64) + cntC p 3 64) + cntC p 4 64 = 0 := by
    rw [← cnt_men, cntF_zero]
    constructor
    · intro h i hi
      rw [← men_bit hp hi]
      unfold menB bothB
      rw [← h, BitVec.getLsbD_and, BitVec.getLsbD_not]
      cases (allB p).getLsbD i <;> simp
    · intro h
      apply BitVec.eq_of_getLsbD_eq
      intro i hi
      have := h i hi
      rw [← men_bit hp hi] at this
      have hb := both_bit hp (k := 6) yd hi
      have ha := allB_bit p hi
      unfold menB at this
      rw [BitVec.getLsbD_and, BitVec.getLsbD_not, hb, ha] at this
      simp only [hi, decide_true, Bool.true_and] at this
      show (allB p).getLsbD i = (bothB p 6).getLsbD i
      rw [hb, ha]
      by_cases h6 : kind (pb p (i : Int)) = 6
      · rw [decide_eq_true h6, h6]; rfl
      · rw [decide_eq_false h6] at this ⊢
        simpa using this
  have e2 : eqv (.ar 2 i64) (kgL p 64) ([1, 1] : List Int) = (decide (cntF (kgF p 0) 64 = 1) && decide (cntF (kgF p 1) 64 = 1)) := by
    rw [Bool.eq_iff_iff, eqv_iff (.ar 2 i64) rfl _ _ (kgL_wf p 64) ⟨rfl, fun _ _ => trivial⟩, Bool.and_eq_true, decide_eq_true_eq, decide_eq_true_eq]
    show ([cntF (kgF p 0) 64, cntF (kgF p 1) 64] : List Int) = [1, 1] ↔ _
    simp
  rw [decide_eq_decide.2 e1, e2, kg_ref hp, kg_ref hp, Bool.and_assoc]
theorem mat_ref : matP p = matR p := by
  unfold matP matR
  split
  · rw [others_ref hp]
    by_cases h : cntC p 5 64 = 0
    · rw [decide_eq_true h, if_neg (by simp), few_ref hp h]
    · rw [decide_eq_false h, if_pos (by rfl)]
      unfold fewR; rw [decide_eq_false h]; rfl
  · split
    · exact kings_ref hp
    · rfl
theorem out_ref : outP p = outX p := by
  have h0 := hp.tu.1
  unfold outP outX
  by_cases h9 : 9 ≤ vr p
  · rw [decide_eq_true h9, if_pos (by rfl), if_pos]
    unfold thereR; rw [decide_eq_false (show ¬ vr p < 9 by omega)]; rfl
  by_cases h1 : 1 < tu p
  · rw [decide_eq_true h1, if_pos (by simp), if_pos]
    unfold thereR; rw [decide_eq_false (show ¬ tu p < 2 by omega)]; simp
  have ht : thereR p = true := by unfold thereR; rw [decide_eq_true (show vr p < 9 by omega), decide_eq_true (show tu p < 2 by omega)]; rfl
  have t1 : tu p ≤ 1 := by omega
  rw [if_neg (by rw [decide_eq_false h9, decide_eq_false h1]; simp), if_neg (by rw [ht]; simp), won_ref hp]
  cases hw : (!decide ((wonR p).1 = 0)) with
  | true => rw [if_pos rfl, pick_n hw]
  | false =>
    rw [if_neg (by simp), pick_z (by simpa using hw)]
    have hS : stuckP p = if decide (((list17 p).length : Int) = 0) = true then (if decide (vr p = 4) = true then (mineR p, (8 : Int), ()) else if refCheck p (tu p) = true then (othR p, (1 : Int), ()) else drawR 2) else zero resT := by
      unfold stuckP
      rw [legal_ref hp, check_ref hp h0 t1]
      have e1 : (1 + tu p : Int) = mineR p := by
        unfold mineR
        by_cases h : tu p = 1
        · rw [decide_eq_true h, if_pos rfl]; omega
        · rw [decide_eq_false h, if_neg (by simp)]; omega
      have e2 : (2 - tu p : Int) = othR p := by
        unfold othR
        by_cases h : tu p = 1
        · rw [decide_eq_true h, if_pos rfl]; omega
        · rw [decide_eq_false h, if_neg (by simp)]; omega
      rw [e1, e2]
      by_cases h : ((list17 p).length : Int) = 0
      · rw [decide_eq_true h, decide_eq_false (show ¬ 0 < ((list17 p).length : Int) by omega), if_neg (by simp), if_pos rfl]; rfl
      · rw [decide_eq_false h, decide_eq_true (show 0 < ((list17 p).length : Int) by omega), if_pos rfl, if_neg (by simp)]
    have nz : ∀ (x : Int) (w : Int) (r : Res), 1 ≤ x → pickR ((x, w, ()) : Res) r = (x, w, ()) := fun x w r hx => by
      refine pick_n ?_
      show (!decide (x = 0)) = true
      rw [decide_eq_false yo]; rfl
    have hm : 1 ≤ mineR p := by unfold mineR; split <;> decide
    have ho : 1 ≤ othR p := by unfold othR; split <;> decide
    rw [hS]
    by_cases h : ((list17 p).length : Int) = 0
    · rw [decide_eq_true h, if_pos rfl, if_pos rfl]
      split
      · exact nz _ _ _ hm
      · split
        · exact nz _ _ _ ho
        · exact nz 3 2 _ yd
    · rw [decide_eq_false h, if_neg (by simp), if_neg (by simp), pick_z rfl]
      unfold littleP
      rw [mat_ref hp]
      split
      · exact nz 3 3 _ yd
      · rw [pick_z rfl]
        unfold lateP
        split
        · exact nz 3 4 _ yd
        · exact pick_z rfl
theorem ended_ref : endedP p = !decide ((outX p).1 = 0) := by unfold endedP; rw [out_ref hp]
end
end Go.Kw
set_option linter.unusedVariables false
namespace Go.Kw
/-! ### the ways, level by level -/
theorem lv_front (p : Pos) : ∀ n, (lvR (n + 1) p : List Pos) = (stR p).flatMap (fun q => (lvR n q : List Pos))
  | 0 => by
    show ([p] : List Pos).flatMap stR = (stR p).flatMap fun q => [q]
    simp
  | n + 1 => by
    show (show List Pos from lvR (n + 1) p).flatMap stR = _
    have ih := lv_front p n
    rw [show (show List Pos from lvR (n + 1) p) = _ from ih, List.flatMap_assoc]
    rfl
theorem ways_lv : ∀ (n : Nat) {p : Pos}, POK p → waysP n p = lvR n p
  | 0, p, hp => rfl
  | n + 1, p, hp => by
    refine Eq.trans ?_ (lv_front p n).symm
    unfold stR
    have he := ended_ref hp
    cases h : (!decide ((outX p).1 = 0)) with
    | true =>
      rw [if_pos rfl, waysP_e (by rw [he, h])]; rfl
    | false =>
      rw [if_neg (by simp), waysP_n (by rw [he, h]), legal_ref hp, List.flatMap_map]
      refine flat_congr fun m hm => ?_
      have ha := list17_mem hm
      have hl := allR_lm hp ha
      have hmv : (moveP p m).1 = madeR p m := by
        rw [move_ok (by rw [all_ref hp]; exact ha), made_ref hp ha]
      rw [hmv]
      exact ways_lv n (POK_madeR hp hl.1 hl.2.toLMv)
/-! ### not more than a million -/
theorem cntF_mono {f g : Nat → Bool} : ∀ {n : Nat}, (∀ i, i < n → f i = true → g i = true) → cntF f n ≤ cntF g n
  | 0, _ => Int.le_refl _
  | n + 1, h => by
    have ih := cntF_mono (f := f) (g := g) (n := n) fun i hi => h i yo
    rw [cntF, cntF]
    by_cases hf : f n = true
    · rw [if_pos hf, if_pos (h n yo hf)]; omega
    · rw [if_neg hf]; split <;> omega
theorem flat_cnt {α : Type} (f : Nat → List α) (g : Nat → Bool) (c : Int) : ∀ n : Nat, (∀ i, i < n → ((f i).length : Int) ≤ if g i = true then c else 0) → (((List.range n).flatMap f).length : Int) ≤ c * cntF g n
  | 0, _ => by simp [cntF]
  | n + 1, h => by
    have ih := flat_cnt f g c n fun i hi => h i yo
    have h1 := h n yo
    rw [range_flat, List.length_append, cntF]
    split
    · rename_i hg
      rw [if_pos hg] at h1
      rw [Int.mul_add]; omega
    · rename_i hg
      rw [if_neg hg] at h1
      omega
def pawnGo (c a b : Int) : Bool := (decide (upOf a b = if c = 0 then 1 else -1) && decide (asideOf a b ≤ 1)) || decide (b = a + 2 * upR c)
theorem pawnGo_cnt : ∀ c : Fin 2, ∀ a : Fin 64, cntF (fun b => pawnGo (c.val : Int) (a.val : Int) (b : Int)) 64 ≤ 4 := by decide +kernel
theorem line_cnt : ∀ a : Fin 64, cntF (fun b => straight (a.val : Int) (b : Int) || across (a.val : Int) (b : Int)) 64 ≤ 27 := by decide +kernel
theorem knight_cnt : ∀ a : Fin 64, cntF (fun b => knightR (a.val : Int) (b : Int)) 64 ≤ 27 := by decide +kernel
theorem king_cnt : ∀ a : Fin 64, cntF (fun b => beside (a.val : Int) (b : Int)) 64 ≤ 27 := by decide +kernel
section
variable {p : Pos} (hp : POK p)
include hp
theorem row_len (ht : tu p ≤ 1) {a : Nat} (ha : a < 64) : ((rowR p (a : Int) 64).length : Int) ≤ if ownR p (a : Int) (tu p) = true then 27 else 0 := by
  have h0 := hp.tu.1
  by_cases ho : ownR p (a : Int) (tu p) = true
  · rw [if_pos ho]
    have hc := own_tu ho
    by_cases hk : kind (pb p (a : Int)) = 1
    · have h5 : ∀ b : Nat, b < 64 → ((mvsR p (a : Int) (b : Int)).length : Int) ≤ if pawnGo (tu p) (a : Int) (b : Int) = true then 5 else 0 := fun b hb => by
        by_cases hm : mayR p (a : Int) (b : Int) = true
        · have hpw := may_pawn_is hm hk
          have : pawnGo (tu p) (a : Int) (b : Int) = true := by
            unfold pawnGo
            cases hh : hits p (a : Int) (b : Int) with
            | true =>
              have := hits_pawn hk hh
              rw [hc] at this
              rw [decide_eq_true this.1, decide_eq_true (show asideOf (a : Int) (b : Int) ≤ 1 by omega)]; rfl
            | false =>
              rcases pawn_straight hpw hh with e | e
              · have h1 : upOf (a : Int) (b : Int) = if tu p = 0 then 1 else -1 := by
                  unfold upOf
                  rw [e]; unfold upR
                  split <;> omega
                have h2 : asideOf (a : Int) (b : Int) ≤ 1 := by
                  unfold asideOf iabs
                  rw [e]; unfold upR
                  split <;> split <;> omega
                rw [decide_eq_true h1, decide_eq_true h2]; rfl
              · rw [decide_eq_true e, Bool.or_true]
          rw [if_pos this]
          have := mvsR_len p (a : Int) (b : Int)
          omega
        · have : mvsR p (a : Int) (b : Int) = [] := by unfold mvsR; rw [if_neg hm]
          rw [this]
          split <;> simp
      have h := flat_cnt (fun b : Nat => mvsR p (a : Int) (b : Int)) _ 5 64 h5
      have hp4 := pawnGo_cnt ⟨(tu p).toNat, by omega⟩ ⟨a, ha⟩
      simp only [Int.toNat_of_nonneg h0] at hp4
      show (((List.range 64).flatMap fun b : Nat => mvsR p (a : Int) (b : Int)).length : Int) ≤ 27
      omega
    · have one : ∀ b : Nat, ((mvsR p (a : Int) (b : Int)).length : Int) ≤ if mayR p (a : Int) (b : Int) = true then 1 else 0 := fun b => by
        unfold mvsR
        split
        · have : oneR p (a : Int) (b : Int) = true := by unfold oneR; rw [decide_eq_false hk]; rfl
          rw [if_pos this]; simp
        · simp
      have h := flat_cnt (fun b : Nat => mvsR p (a : Int) (b : Int)) _ 1 64 fun b _ => one b
      show (((List.range 64).flatMap fun b : Nat => mvsR p (a : Int) (b : Int)).length : Int) ≤ 27
      have hits_of : ∀ b : Nat, mayR p (a : Int) (b : Int) = true → hits p (a : Int) (b : Int) = true := fun b hm => by
        unfold mayR at hm
        split at hm
        · cases hm
        · rw [if_neg (by simpa using hk)] at hm
          split at hm
          · exact (Bool.and_eq_true_iff.1 hm).1
          · exact hm
      have le27 : cntF (fun b : Nat => mayR p (a : Int) (b : Int)) 64 ≤ 27 := by
        by_cases h2 : kind (pb p (a : Int)) = 2
        · refine Int.le_trans (cntF_mono fun b hb hm => ?_) (knight_cnt ⟨a, ha⟩)
          have := hits_of b hm
          rw [hits_eq, if_neg hk, if_pos h2] at this
          exact this
        · by_cases h6 : kind (pb p (a : Int)) = 6
          · refine Int.le_trans (cntF_mono fun b hb hm => ?_) (king_cnt ⟨a, ha⟩)
            have := hits_of b hm
            rw [hits_eq, if_neg hk, if_neg h2, if_pos h6] at this
            exact this
          · refine Int.le_trans (cntF_mono fun b hb hm => ?_) (line_cnt ⟨a, ha⟩)
            have := hits_of b hm
            unfold hits at this
            rw [if_neg hk, if_neg h2, if_neg h6] at this
            show (straight (a : Int) (b : Int) || across (a : Int) (b : Int)) = true
            split at this
            · rw [(Bool.and_eq_true_iff.1 this).1]; rfl
            · split at this
              · rw [(Bool.and_eq_true_iff.1 this).1, Bool.or_true]
              · split at this
                · exact (Bool.and_eq_true_iff.1 this).1
                · cases this
      omega
  · rw [if_neg ho]
    have : ∀ b : Nat, mvsR p (a : Int) (b : Int) = [] := fun b => by
      unfold mvsR
      rw [if_neg]
      intro hm
      exact ho (may_own hm).1
    unfold rowR
    rw [List.flatMap_eq_nil_iff.2 fun b _ => this b]
    simp
def menN (p : Pos) (c : Int) : Int := cntF (fun s => ownR p (s : Int) c) 64
omit hp in
theorem menN_rng (p : Pos) (c : Int) : 0 ≤ menN p c ∧ menN p c ≤ 64 := cntF_rng _ 64
theorem len13 : ((list13 p).length : Int) ≤ 27 * menN p (tu p) := by
  have hr := menN_rng p (tu p)
  cases ht : thereR p with
  | false =>
    rw [list13_n (by rw [ht]; rfl)]
    simp; omega
  | true =>
    rw [list13_y (by rw [ht]; rfl)]
    exact flat_cnt (fun a : Nat => rowR p (a : Int) 64) _ 27 64 fun a ha => row_len hp (there_tu2 ht) ha
theorem len15 : ((list15 p).length : Int) ≤ 5 * cntF (fun s => emptyR p (s : Int)) 64 := by
  have hr := cntF_rng (fun s => emptyR p (s : Int)) 64
  have hA : ∀ kd : Int, ((dAll p kd 64).length : Int) ≤ 1 * cntF (fun s => emptyR p (s : Int)) 64 := fun kd => by
    refine flat_cnt (dOne p kd) _ 1 64 fun s hs => ?_
    unfold dOne dBad emptyR
    by_cases h : kind (pb p (s : Int)) = 0
    · rw [decide_eq_true h]; split <;> simp
    · rw [decide_eq_false h, if_pos (by rfl)]; simp
  have hK : ∀ kd : Int, ((dKind p kd).length : Int) ≤ cntF (fun s => emptyR p (s : Int)) 64 := fun kd => by
    have := hA kd
    unfold dKind; split
    · omega
    · simp; omega
  unfold list15
  split
  · simp; omega
  · show (((List.range 5).flatMap fun k : Nat => dKind p ((k : Int) + 1)).length : Int) ≤ _
    have h0 := hK (((0 : Nat) : Int) + 1)
    have h1 := hK (((1 : Nat) : Int) + 1)
    have h2 := hK (((2 : Nat) : Int) + 1)
    have h3 := hK (((3 : Nat) : Int) + 1)
    have h4 := hK (((4 : Nat) : Int) + 1)
    show ((dKind p _ ++ (dKind p _ ++ (dKind p _ ++ (dKind p _ ++ (dKind p _ ++ []))))).length : Int) ≤ _
    simp only [List.length_append, List.length_nil]
    omega
theorem men_sum : (menN p 0 + menN p 1) + cntF (fun s => emptyR p (s : Int)) 64 = 64 := by
  have key : ∀ n : Nat, (cntF (fun s => ownR p (s : Int) 0) n + cntF (fun s => ownR p (s : Int) 1) n) + cntF (fun s => emptyR p (s : Int)) n = (n : Int) := by
    intro n
    induction n with
    | zero => rfl
    | succ n ih =>
      rw [cntF, cntF, cntF]
      unfold ownR emptyR at *
      by_cases h : kind (pb p (n : Int)) = 0
      · rw [decide_eq_true h]
        simp only [Bool.not_true, Bool.false_and]
        simp; omega
      · rw [decide_eq_false h]
        rcases kind_c (x := pb p (n : Int)) (hp.board _).1 h with e | e <;> rw [e] <;> simp <;> omega
  exact key 64
theorem allR_cnt : ((allR p).length : Int) ≤ 27 * menN p (tu p) + 2 + 5 * cntF (fun s => emptyR p (s : Int)) 64 := by
  have h1 := len13 hp
  have h2 := list14_len p
  have h3 := len15 hp
  unfold allR
  rw [List.length_append, List.length_append]
  omega
end
end Go.Kw
set_option linter.unusedVariables false
namespace Go.Kw
theorem list14_rook {p : Pos} (hp : POK p) {m : Mv} (h : m ∈ list14 p) : isAt p (mT m) (tu p) 4 = true := by
  have key : ∀ side : Int, m ∈ (if (mayC p side).2.2 = true then [castM (mayC p side)] else []) → isAt p (mT m) (tu p) 4 = true := fun side h => by
    split at h
    · rename_i hc
      rw [List.mem_singleton] at h; subst h
      unfold mayC at hc ⊢
      split at hc
      · cases hc
      · split at hc
        · cases hc
        · split at hc
          · cases hc
          · split at hc
            · rename_i n1 n2 n3 n4
              rw [if_neg n1, if_neg n2, if_neg n3, if_pos n4]
              have h3 := Bool.eq_false_iff.2 n3
              unfold mayC2 at h3
              have hr := (Bool.or_eq_false_iff.1 (Bool.or_eq_false_iff.1 h3).1).1
              have hr : isAt p (56 * tu p + castF p side) (tu p) 4 = true := by simpa using hr
              exact hr
            · cases hc
    · cases h
  rcases List.mem_append.1 (show m ∈ ([] ++ _) ++ _ from h) with h | h
  · rcases List.mem_append.1 h with h | h
    · cases h
    · exact key 1 h
  · exact key 0 h
/-- No man more of the color that isn't to move in p. -/
def NoGain (p q : Pos) : Prop := ∀ s : Int, 0 ≤ s → s < 64 → ownR q s (1 - tu p) = true → ownR p s (1 - tu p) = true
theorem NoGain.put {p q : Pos} (h : NoGain p q) (hq : POK q) (i v : Int) (i0 : 0 ≤ i) (hv : kind v = 0 ∨ ¬ v / 8 = 1 - tu p) : NoGain p (putB q i v) := fun s h0 h1 ho => by
  refine h s h0 h1 ?_
  unfold ownR emptyR at *
  rw [pb_put hq i v h0 h1 i0] at ho
  by_cases e : s = i
  · rw [if_pos e] at ho
    rcases hv with hv | hv
    · rw [decide_eq_true hv] at ho; cases ho
    · rw [decide_eq_false hv, Bool.and_false] at ho; cases ho
  · rw [if_neg e] at ho; exact ho
theorem NoGain.same {p q r : Pos} (h : NoGain p q) (e : bd r = bd q) : NoGain p r := fun s h0 h1 ho => by
  refine h s h0 h1 ?_
  have : pb r s = pb q s := by unfold pb; rw [e]
  unfold ownR emptyR at *
  rw [this] at ho; exact ho
theorem kind0 : kind 0 = 0 := by decide
section
variable {p : Pos} {m : Mv} (hp : POK p) (h : m ∈ allR p)
include hp h
theorem NoGain_men : NoGain p (menR p m (takenR p m)) := by
  obtain ⟨hm, hL⟩ := allR_lm hp h
  have h0 := hp.tu
  have ht := hL.t
  have f0 : NoGain p p := fun _ _ _ h => h
  have own : ∀ {s c : Int}, ownR p s c = true → ¬ c = 1 - tu p → ¬ pb p s / 8 = 1 - tu p := fun ho hc => by rw [own_tu ho]; exact hc
  have own' : ∀ {s k : Int}, isAt p s (tu p) k = true → ¬ pb p s / 8 = 1 - tu p := fun {s k} ho => by
    have := of_decide_eq_true (Bool.and_eq_true_iff.1 ho).2; omega
  rcases List.mem_append.1 (show m ∈ (list13 p ++ list14 p) ++ list15 p from h) with h' | h'
  · rcases List.mem_append.1 h' with h' | h'
    · have ok := list13_ok h'
      have h13 := (mem_list13 p m).1 h'
      have hmay : mayR p (mF m) (mT m) = true := by
        have := h13.2.2.2
        unfold mvsR at this
        split at this
        · rename_i hh; exact hh
        · cases this
      have hown := (may_own hmay).1
      have hF : ¬ pb p (mF m) / 8 = 1 - tu p := own hown yo
      unfold menR
      rw [if_neg (by rw [ok.2.2.2.2.1]; simp), if_neg (by rw [decide_eq_true ok.2.2.2.1]; simp)]
      have g1 : NoGain p (men1 p (takenR p m)) := by
        unfold men1; split
        · rename_i hh
          exact f0.put hp _ _ (of_decide_eq_true hh) (.inl kind0)
        · exact f0
      have k1 : POK (men1 p (takenR p m)) := POK_men1 hp _
      have g2 : NoGain p (men2 (men1 p (takenR p m)) p m) := (g1.put k1 _ _ hL.f.1 (.inl kind0)).put (POK_put k1 _ yd yd) _ _ hL.to.1 (.inr hF)
      have k2 : POK (men2 (men1 p (takenR p m)) p m) := POK_men2 k1 hp m
      unfold men3r; split
      · refine g2.put k2 _ _ hL.to.1 (.inr ?_)
        have := hL.p6; have := hL.pr; omega
      · exact g2
    · have ok := list14_ok hp h'
      have hc := list14_cast hp h'
      have hr := list14_rook hp h'
      have hs := side_pos hp hL ok.2.2.2.2.1
      have hg := goR_rng (sideR p m)
      unfold menR
      rw [if_pos ok.2.2.2.2.1]
      have k1 : POK (putB p (mF m) 0) := POK_put hp _ yd yd
      have k2 : POK (putB (putB p (mF m) 0) (mT m) 0) := POK_put k1 _ yd yd
      have k3 := POK_putP k2 (56 * tu p + (goR (sideR p m)).1) hp (mF m)
      exact (((f0.put hp _ _ hL.f.1 (.inl kind0)).put k1 _ _ hL.to.1 (.inl kind0)).put k2 _ _ yo (.inr (own' hc.1))).put k3 _ _ yo (.inr (own' hr))
  · have ok := list15_ok h'
    unfold menR
    rw [if_neg (by rw [ok.2.2.2.2.1]; simp), if_pos (by rw [decide_eq_false (show ¬ mD m = 0 by omega)]; rfl)]
    have hr := pkAt_rng hp (tu p) (mD m)
    have k1 : POK (setPk p (tu p) (mD m) (pkAt p (tu p) (mD m) - 1)) := POK_setPk hp _ _ yo yo
    have g1 : NoGain p (setPk p (tu p) (mD m) (pkAt p (tu p) (mD m) - 1)) := f0.same rfl
    exact g1.put k1 _ _ hL.to.1 (.inr yo)
omit hp h in
theorem bd_pocket (q : Pos) (tk : Int) : bd (pocketR p q m tk) = bd q := by
  unfold pocketR pk2
  repeat' split
  all_goals rfl
omit hp h in
theorem NoGain_blow {q : Pos} (hg : NoGain p q) (hq : POK q) (b : BitVec 64) : ∀ n, NoGain p (blowTo q b n)
  | 0 => hg
  | n + 1 => by
    rw [blowTo]; split
    · exact (NoGain_blow hg hq b n).put (POK_blowTo hq b n) _ _ yo (.inl kind0)
    · exact NoGain_blow hg hq b n
omit hp h in
theorem bd_rrJ (q : Pos) (tk c : Int) : ∀ j, bd (rrJ m tk q c j) = bd q
  | 0 => rfl
  | j + 1 => by
    have ih := bd_rrJ q tk c j
    rw [rrJ, rrSide]
    split
    · exact ih
    · split
      · exact ih
      · exact ih
omit hp h in
theorem bd_rrC (q : Pos) (tk : Int) : ∀ n, bd (rrC m tk q n) = bd q
  | 0 => rfl
  | n + 1 => (bd_rrJ _ tk _ 2).trans (bd_rrC q tk n)
omit hp h in
theorem bd_rights (q : Pos) (tk : Int) : bd (rightsR p q m tk) = bd q := by
  unfold rightsR
  rw [bd_rrC]
  unfold rr1; split <;> rfl
omit hp h in
theorem bd_last (q : Pos) : bd (mdE p (md9 p m q)) = bd q := by
  have e7 : bd (md7 p m q) = bd q := by unfold md7 md5; split <;> rfl
  have e8 : bd (md8 p m q) = bd q := by unfold md8; split <;> exact e7
  have e9 : bd (md9 p m q) = bd q := e8
  unfold mdE; split
  · exact e9
  · exact e9
omit hp h in
theorem tu_made : tu (madeR p m) = 1 - tu p := by
  unfold madeR mdE; split <;> rfl
theorem NoGain_made : NoGain p (madeR p m) := by
  obtain ⟨hm, hL⟩ := allR_lm hp h
  have g1 := NoGain_men hp h
  have k1 := POK_menR hp hm hL.toLMv (takenR p m)
  have g2 : NoGain p (md2 p m) := g1.same (bd_pocket _ _)
  have k2 : POK (md2 p m) := POK_pocketR k1 m _
  have g3 : NoGain p (md3 p m) := by
    unfold md3; split
    · exact NoGain_blow g2 k2 _ 64
    · exact g2
  have g4 : NoGain p (md4 p m) := g3.same (bd_rights _ _)
  exact g4.same (bd_last _)
end
theorem st_len {p : Pos} : (stR p).length ≤ (allR p).length := by
  unfold stR
  split
  · exact Nat.zero_le _
  · rw [List.length_map]
    unfold list17; split
    · exact Nat.zero_le _
    · unfold wouldR; split
      · exact Nat.zero_le _
      · split
        · exact Nat.le_trans (List.length_filter_le _ _) (List.length_take_le' _ _)
        · exact Nat.le_trans (List.length_filter_le _ _) (List.length_take_le' _ _)
theorem flat_bnd {α β : Type} (f : α → List β) (c : Nat) : ∀ l : List α, (∀ x ∈ l, (f x).length ≤ c) → (l.flatMap f).length ≤ l.length * c
  | [], _ => by simp
  | x :: l, h => by
    have := flat_bnd f c l fun y hy => h y (by simp [hy])
    have := h x (by simp)
    rw [List.flatMap_cons, List.length_append, List.length_cons, Nat.add_mul]; omega
theorem prod_bnd : ∀ x : Fin 65, (1730 - 27 * x.val) * (22 * x.val + 322) ≤ 1000000 := by decide
theorem lv2_len {p : Pos} (hp : POK p) : (lvR 2 p).length ≤ 1000000 := by
  have e : (lvR 2 p : List Pos) = (stR p).flatMap fun q => stR q := by
    rw [lv_front p 1]
    congr 1
    funext q
    show ([q] : List Pos).flatMap stR = stR q
    simp
  cases ht : thereR p with
  | false =>
    have : stR p = [] := by
      have h := @st_len p
      rw [not_there_all hp (by rw [ht]; rfl)] at h
      exact List.eq_nil_of_length_eq_zero (by simpa using h)
    rw [show lvR 2 p = _ from e, this]; simp
  | true =>
    have h0 := hp.tu
    have t1 := there_tu2 ht
    have hs := men_sum hp
    have ha := allR_cnt hp
    have r1 := menN_rng p (tu p)
    have r2 := menN_rng p (1 - tu p)
    have hcol : menN p (tu p) + menN p (1 - tu p) = menN p 0 + menN p 1 := by
      have : tu p = 0 ∨ tu p = 1 := by omega
      rcases this with e | e <;> rw [e]
      · rfl
      · exact Int.add_comm _ _
    have hz := cntF_rng (fun s => emptyR p (s : Int)) 64
    have hB : ∀ q ∈ stR p, (stR q).length ≤ 22 * (menN p (1 - tu p)).toNat + 322 := fun q hq => by
      unfold stR at hq
      split at hq
      · cases hq
      · obtain ⟨m, hm, rfl⟩ := List.mem_map.1 hq
        have hall := list17_mem hm
        obtain ⟨hmk, hL⟩ := allR_lm hp hall
        have hq : POK (madeR p m) := POK_madeR hp hmk hL.toLMv
        have h1 := @st_len (madeR p m)
        have h2 := allR_cnt hq
        have h3 := men_sum hq
        rw [tu_made] at h2
        have h4 : menN (madeR p m) (1 - tu p) ≤ menN p (1 - tu p) := cntF_mono fun s hs ho => NoGain_made hp hall (s : Int) yo yo ho
        have h5 := menN_rng (madeR p m) (tu p)
        have hcol : menN (madeR p m) (tu p) + menN (madeR p m) (1 - tu p) = menN (madeR p m) 0 + menN (madeR p m) 1 := by
          have : tu p = 0 ∨ tu p = 1 := by omega
          rcases this with e | e <;> rw [e]
          · rfl
          · exact Int.add_comm _ _
        omega
    have h1 := flat_bnd stR _ (stR p) hB
    have h2 := @st_len p
    have h3 := prod_bnd ⟨(menN p (1 - tu p)).toNat, by omega⟩
    simp only at h3
    have hA : (stR p).length ≤ 1730 - 27 * (menN p (1 - tu p)).toNat := by omega
    rw [show (lvR 2 p).length = ((stR p).flatMap fun q => stR q).length from congrArg List.length e]
    exact Nat.le_trans h1 (Nat.le_trans (Nat.mul_le_mul_right _ hA) h3)
theorem lv_len {p : Pos} (hp : POK p) : ∀ i : Nat, i ≤ 2 → (lvR i p).length ≤ 1000000
  | 0, _ => Nat.le_of_ble_eq_true rfl
  | 1, _ => by
    have h := @st_len p
    have h2 := allR_len p
    have e : (lvR 1 p : List Pos) = stR p := by
      show ([p] : List Pos).flatMap stR = stR p
      simp
    rw [show (lvR 1 p).length = (stR p).length from congrArg List.length e]
    omega
  | 2, _ => lv2_len hp
  | n + 3, h => by omega
end Go.Kw
set_option linter.unusedVariables false
namespace Go.Kw
open Go.Proofs
theorem ways_b {p : Pos} (hp : POK p) {d : Int} (h : d ≤ 2) : ∀ i : Nat, (i : Int) ≤ d → d ≤ 64 → ((waysP i p).length : Int) ≤ 1000000 := fun i h1 _ => by
  rw [ways_lv i hp]
  have := lv_len hp i yo
  exact Int.ofNat_le.2 this
end Go.Kw
set_option linter.unusedVariables false
namespace Go.Kw
section
variable {P : Program} {n : Nat} {T : Tm} {M : List Fact} {o : Oper} {v v' : Value} {x y : Operand}
theorem ov_addS {a b : ByteArray} {t1 t2 : TypeId} (ho : o.op = .binOp .add t1 x y t2) (hx : look T x = some (.string a)) (hy : look T y = some (.string b)) (h : a.size + b.size ≤ 1000000) : OpX P n o T M (.string (a ++ b)) := ov_run fun d w hk hm => by
  unfold execOp; simp only [ho, hk.eval hx, hk.eval hy]
  simp [eqGuard, binOp, Op.stringOp]
  omega
theorem ov_eqlS {a : ByteArray} {t1 t2 : TypeId} (ho : o.op = .binOp .eql t1 x y t2) (hx : look T x = some (.string a)) (hy : look T y = some (.string a)) : OpX P n o T M (.bool true) := ov_run fun d w hk hm => by
  unfold execOp; simp only [ho, hk.eval hx, hk.eval hy]
  simp [eqGuard, binOp, Op.stringOp]
theorem ov_is (h : OpX P n o T M v) (e : v = v') : OpX P n o T M v' := e ▸ h
end
end Go.Kw
set_option linter.unusedVariables false
namespace Go.Kw
open Go.Proofs
theorem tok24 : TyOK Tryz.prog 24 (.ar 6 u8) := ⟨Tryz.isAgg24, Tryz.sizeOf24, Tryz.zeroValue24⟩
theorem tok25 : TyOK Tryz.prog 25 (.ar 2 (.ar 6 u8)) := ⟨Tryz.isAgg25, Tryz.sizeOf25, Tryz.zeroValue25⟩
theorem bl25 : BuildOKa Tryz.prog 25 2 (.ar 6 u8) := ⟨_, _, _, rfl, rfl, Tryz.underlying25, rfl, rfl⟩
theorem eqt24_ (d : Nat) : EqT Tryz.prog (d + 2) 24 (.ar 6 u8) := eqt_ar (d := d + 1) Tryz.underlying24 rfl rfl tok5 (eqt5_ d)
theorem eqt25_ (d : Nat) : EqT Tryz.prog (d + 3) 25 (.ar 2 (.ar 6 u8)) := eqt_ar (d := d + 2) Tryz.underlying25 rfl rfl tok24 (eqt24_ d)
theorem eqt25 : EqT Tryz.prog 6 25 (.ar 2 (.ar 6 u8)) := eqt25_ 3
theorem eqg25 : Tryz.prog.eqGuardType Tryz.prog.depth 25 = false := by kernel_rfl

def cnK (p : Pos) (c kd : Int) (s : Nat) : Bool := isAt p (s : Int) c kd
def countR (p : Pos) (c kd : Int) : Int := cntF (cnK p c kd) 64
def plH1 (p : Pos) : Bool := ((decide (8 < vr p) || decide (1 < tu p)) || decide (pg p < -1)) || decide (63 < pg p)
def plB (p : Pos) (i : Nat) : Bool := !decide (pb p (i : Int) = 0) && decide (kind (pb p (i : Int)) = 0)
def plK (p : Pos) (c j : Nat) : Bool := decide (rkAt p (c : Int) (j : Int) < -1) || decide (7 < rkAt p (c : Int) (j : Int))
def plH (p : Pos) (c : Nat) : Bool := decide (3 < ckAt p (c : Int)) || (!decide (vr p = 5) && !decide (ckAt p (c : Int) = 0))
def plC (p : Pos) (c : Nat) : Bool := !okTo (plK p c) 2 || plH p c
def plainR (p : Pos) : Bool := if plH1 p = true then false else okTo (plB p) 64 && okTo (plC p) 2
theorem plC_no {p : Pos} {c j : Nat} (hj : j = 2) (h : okTo (plK p c) j = true) (h2 : plH p c = false) : plC p c = false := by
  subst hj; unfold plC; rw [h, h2]; rfl
theorem pl_a {p : Pos} (h : plH1 p = true) : false = plainR p := by unfold plainR; rw [if_pos h]
theorem pl_b {p : Pos} (h : plH1 p = false) {i : Nat} (hi : i < 64) (h2 : plB p i = true) : false = plainR p := by
  unfold plainR; rw [if_neg xasy, okTo_no h2 hi]; rfl
theorem pl_c {p : Pos} (h : plH1 p = false) {c j : Nat} (hc : c < 2) (hj : j < 2) (h2 : plK p c j = true) : false = plainR p := by
  have : plC p c = true := by unfold plC; rw [okTo_no h2 hj]; rfl
  unfold plainR; rw [if_neg xasy, okTo_no this hc, Bool.and_false]
theorem pl_d {p : Pos} (h : plH1 p = false) {c : Nat} (hc : c < 2) (h2 : plH p c = true) : false = plainR p := by
  have : plC p c = true := by unfold plC; rw [h2, Bool.or_true]
  unfold plainR; rw [if_neg xasy, okTo_no this hc, Bool.and_false]
theorem pl_e {p : Pos} (h : plH1 p = false) {i c : Nat} (hi : i = 64) (h2 : okTo (plB p) i = true) (hc : c = 2) (h3 : okTo (plC p) c = true) : true = plainR p := by
  subst hi; subst hc
  unfold plainR; rw [if_neg xasy, h2, h3]; rfl
def kgB (p : Pos) (i : Nat) : Bool :=
  if decide (vr p = 4) = true then false else if (decide (vr p = 7) && decide ((i : Int) = 0)) = true then decide (0 < countR p (i : Int) 6)
  else if ((decide (countR p (i : Int) 6 = 0) && decide (vr p = 3)) && decide ((i : Int) = tu p)) = true then false else !decide (countR p (i : Int) 6 = 1)
def kingsR (p : Pos) : Bool := okTo (kgB p) 2
theorem kg_a {p : Pos} {i : Nat} (h2 : decide (vr p = 4) = true) : kgB p i = false := if_pos h2
theorem kg_b {p : Pos} {i : Nat} {b : Bool} (h2 : decide (vr p = 4) = false) (h3 : (decide (vr p = 7) && decide ((i : Int) = 0)) = true) (h4 : decide (0 < countR p (i : Int) 6) = b) : kgB p i = b :=
  (if_neg (Bool.eq_false_iff.1 h2)).trans ((if_pos h3).trans h4)
theorem kg_c {p : Pos} {i : Nat} (h2 : decide (vr p = 4) = false) (h3 : (decide (vr p = 7) && decide ((i : Int) = 0)) = false) (h5 : ((decide (countR p (i : Int) 6 = 0) && decide (vr p = 3)) && decide ((i : Int) = tu p)) = true) : kgB p i = false :=
  (if_neg (Bool.eq_false_iff.1 h2)).trans ((if_neg (Bool.eq_false_iff.1 h3)).trans (if_pos h5))
theorem kg_d {p : Pos} {i : Nat} {b : Bool} (h2 : decide (vr p = 4) = false) (h3 : (decide (vr p = 7) && decide ((i : Int) = 0)) = false) (h5 : ((decide (countR p (i : Int) 6 = 0) && decide (vr p = 3)) && decide ((i : Int) = tu p)) = false) (h6 : (!decide (countR p (i : Int) 6 = 1)) = b) : kgB p i = b :=
  (if_neg (Bool.eq_false_iff.1 h2)).trans ((if_neg (Bool.eq_false_iff.1 h3)).trans ((if_neg (Bool.eq_false_iff.1 h5)).trans h6))
def pwB (p : Pos) (i : Nat) : Bool := if (!decide (kind (pb p (i : Int)) = 1)) = true then false else if (decide (vr p = 8) || decide (55 < (i : Int))) = true then true
  else decide ((i : Int) < 8) && (!decide (vr p = 7) || !decide (pb p (i : Int) = 1))
def pawnsR (p : Pos) : Bool := okTo (pwB p) 64
theorem pw_a {p : Pos} {i : Nat} (h2 : (!decide (kind (pb p (i : Int)) = 1)) = true) : pwB p i = false := if_pos h2
theorem pw_c {p : Pos} {i : Nat} (h2 : (!decide (kind (pb p (i : Int)) = 1)) = false) (h3 : (decide (vr p = 8) || decide (55 < (i : Int))) = true) : pwB p i = true := (if_neg (Bool.eq_false_iff.1 h2)).trans (if_pos h3)
theorem pw_b {p : Pos} {i : Nat} {b : Bool} (h2 : (!decide (kind (pb p (i : Int)) = 1)) = false) (h3 : (decide (vr p = 8) || decide (55 < (i : Int))) = false) (h4 : (decide ((i : Int) < 8) && (!decide (vr p = 7) || !decide (pb p (i : Int) = 1))) = b) : pwB p i = b :=
  (if_neg (Bool.eq_false_iff.1 h2)).trans ((if_neg (Bool.eq_false_iff.1 h3)).trans h4)
def heldTo (p : Pos) (c : Int) : Nat → Int
  | 0 => 0
  | i + 1 => heldTo p c i + pkAt p c ((i : Int) + 1)
theorem heldTo_rng {p : Pos} (hp : POK p) (c : Int) : ∀ i : Nat, i ≤ 5 → 0 ≤ heldTo p c i ∧ heldTo p c i ≤ 255 * i
  | 0, _ => ⟨Int.le_refl _, Int.le_refl _⟩
  | i + 1, h => by
    have ih := heldTo_rng hp c i yo
    have hr := pkAt_rng hp c ((i : Int) + 1)
    rw [heldTo]; omega
def manC (p : Pos) : Int := (heldTo p 0 5 + heldTo p 1 5) + cntF (fun s : Nat => !decide (kind (pb p (s : Int)) = 0)) 64
def pcB (p : Pos) (i : Nat) : Bool := bitAt (pm p) (i : Int) && ((decide (kind (pb p (i : Int)) = 0) || decide (kind (pb p (i : Int)) = 1)) || decide (kind (pb p (i : Int)) = 6))
def pcE (p : Pos) : Bool := (decide (pkAt p 0 0 = 0) && decide (pkAt p 1 0 = 0)) && decide (manC p ≤ 32)
def pocketsR (p : Pos) : Bool := if (!decide (vr p = 2)) = true then eqv (.ar 2 (.ar 6 u8)) (pk p) (zero (.ar 2 (.ar 6 u8))) && decide (pm p = 0#64) else okTo (pcB p) 64 && pcE p
theorem pc_a {p : Pos} (h : (!decide (vr p = 2)) = true) : (eqv (.ar 2 (.ar 6 u8)) (pk p) (zero (.ar 2 (.ar 6 u8))) && decide (pm p = 0#64)) = pocketsR p := (if_pos h).symm
theorem pc_b {p : Pos} (h : (!decide (vr p = 2)) = false) {i : Nat} (hi : i < 64) (h2 : pcB p i = true) : false = pocketsR p := by
  unfold pocketsR; rw [if_neg xasy, okTo_no h2 hi]; rfl
theorem pc_c {p : Pos} (h : (!decide (vr p = 2)) = false) {i : Nat} (hi : i = 64) (h2 : okTo (pcB p) i = true) : pcE p = pocketsR p := by
  subst hi; unfold pocketsR; rw [if_neg xasy, h2]; rfl
def rgA (p : Pos) (c sd : Int) : Bool := (decide (find p c 6 < 0) || !decide (find p c 6 / 8 = 7 * c)) || !isAt p (8 * (7 * c) + rkAt p c sd) c 4
def rgB (p : Pos) (c sd : Int) : Bool := !decide (vr p = 1) && ((!decide (find p c 6 % 8 = 4) || (decide (sd = 0) && !decide (rkAt p c sd = 7))) || (decide (sd = 1) && !decide (rkAt p c sd = 0)))
def rightC (p : Pos) (c sd : Int) : Bool := if decide (rkAt p c sd = -1) = true then true else if (!castlesP (vr p)) = true then false else if rgA p c sd = true then false else if rgB p c sd = true then false
  else if decide (sd = 0) = true then decide (find p c 6 % 8 < rkAt p c sd) else decide (rkAt p c sd < find p c 6 % 8)
def rankK (p : Pos) : Int := if tu p = 1 then 2 else 5
def upK (p : Pos) : Int := if tu p = 1 then -8 else 8
theorem rankK_val (p : Pos) : rankK p = 2 ∨ rankK p = 5 := by unfold rankK; split <;> simp
theorem upK_val (p : Pos) : upK p = 8 ∨ upK p = -8 := by unfold upK; split <;> simp
def psB (p : Pos) : Bool := ((!decide (pg p / 8 = rankK p) || !decide (pb p (pg p) = 0)) || !decide (pb p (pg p + upK p) = 0)) || !isAt p (pg p - upK p) (1 - tu p) 1
def psF (p : Pos) (i : Nat) : Bool := isAt p (i : Int) (tu p) 1 && hits p (i : Int) (pg p)
def passC (p : Pos) : Bool := if decide (pg p = -1) = true then true else if psB p = true then false else !okTo (psF p) 64
theorem pa_y {p : Pos} (h1 : decide (pg p = -1) = false) (h3 : psB p = false) {i : Nat} (hi : i < 64) (h5 : psF p i = true) : true = passC p := by
  unfold passC; rw [if_neg (by rw [h1]; simp), if_neg (by rw [h3]; simp), okTo_no h5 hi]; rfl
theorem pa_n {p : Pos} (h1 : decide (pg p = -1) = false) (h3 : psB p = false) {i : Nat} (hi : i = 64) (h5 : okTo (psF p) i = true) : false = passC p := by
  subst hi; unfold passC; rw [if_neg (by rw [h1]; simp), if_neg (by rw [h3]; simp), h5]; rfl
def chkC (p : Pos) : Bool := if decide (vr p = 8) = true then !refCheck p 0 && !refCheck p 1 else (decide (vr p = 3) && decide (countR p (tu p) 6 = 0)) || !refCheck p (1 - tu p)

theorem c_ref12_count (p : Pos) (hp : POK p) (c kd : Int) (M : List Fact) : Pure Tryz.prog 85 [enc posT p, .int .u8 c, .int .u8 kd] M (.int .i64 (countR p c kd)) := by
 obtain ⟨hb, hpw, hvr, htu, hpg, hvr0, htu0⟩ := hp.head
 refine pure_of_W (n := 21) Tryz.func85 rfl rfl yn ?_
 refine w2 (fun w0 => ?_)
 refine LO_l rfl (by decide : 3 < 21) (ol_box (t := posT) rfl rfl rfl yf (fun b1 => ?_))
 refine zA ?_
 refine LO_nil (w1 ((yA_ ?_)))
 refine RO_nil (W_seq (w1 ((yA_ ?_))))
 refine RO_nil (W_block (W_loop (σ := Nat) (fun i => i ≤ 64) (fun i => [(1, .int .u8 c), (2, .int .u8 kd), (3, ptrv b1 posT []), (7, .int .i64 (cntF (cnK p c kd) i)), (8, .int .i64 (i : Int))]) (fun i => .box b1 31 posT _ :: M) (fun i => 64 - i) (0) yo ⟨rfl, rfl, rfl, rfl, rfl, trivial⟩ yb ?_))
 rintro i hI
 refine W_seq (w1 ((yM ?_)))
 refine yR (ov_lss rfl rfl rfl) ?_
 refine RO_nil (W_cond rfl (fun hc1 => ?_) (fun hc1 => ?_))
 ·
  try simp only [yS] at hc1
  have hcr := cntF_rng (cnK p c kd) i
  refine W_skip (W_seq (W_block (w1 ((yR (ov_load rfl rfl ye trivial rfl rfl tok31) ?_)))))
  refine yM ?_
  refine yM ?_
  refine yM ?_
  refine yP (yV rfl rfl rfl Tryz.call89 (by apply c_ref08_Is <;> exact yz)) ?_
  refine RO_nil (W_cond rfl (fun hc2 => ?_) (fun hc2 => ?_))
  ·
   refine W_reg (yM ?_)
   refine yR (ov_add rfl rfl rfl ya) ?_
   refine yA_ ?_
   refine RO_nil (W_reg (yM ?_))
   refine yR (ov_add rfl rfl rfl ya) ?_
   refine yA_ ?_
   refine RO_nil ?_
   exact ⟨i + 1, yo, yo, ⟨rfl, rfl, rfl, congrArg some (val_int (by first | rw [cntF_y (f := (cnK p c kd)) hc2] | rw [cntF_n (f := (cnK p c kd)) hc2])), rfl, trivial⟩, yb⟩
  ·
   refine W_skip (W_reg (yM ?_))
   refine yR (ov_add rfl rfl rfl ya) ?_
   refine yA_ ?_
   refine RO_nil ?_
   exact ⟨i + 1, yo, yo, ⟨rfl, rfl, rfl, congrArg some (val_int (by first | rw [cntF_y (f := (cnK p c kd)) hc2] | rw [cntF_n (f := (cnK p c kd)) hc2])), rfl, trivial⟩, yb⟩
 ·
  try simp only [yS] at hc1
  refine W_exit (w1 ((yM ?_)))
  refine yA_ ?_
  refine RO_nil (W_ret ⟨trivial, yb, (ResV_tmp1 rfl rfl ?_)⟩)
  exact val_int (by rw [show i = 64 by omega]; rfl)

theorem c_ref12_plain (p : Pos) (hp : POK p) (M : List Fact) : Pure Tryz.prog 36 [enc posT p] M (.bool (plainR p)) := by
 obtain ⟨hb, hpw, hvr, htu, hpg, hvr0, htu0⟩ := hp.head
 refine pure_of_W (n := 82) Tryz.func36 rfl rfl yn ?_
 refine w2 (fun w0 => ?_)
 refine LO_l rfl (by decide : 1 < 82) (ol_box (t := posT) rfl rfl rfl yf (fun b1 => ?_))
 refine zA ?_
 refine LO_nil (W_seq (w1 ((yR (ov_fieldAddr rfl rfl fa31_0 rfl) ?_))))
 refine yR (ov_load rfl rfl ye ⟨trivial, yn⟩ rfl rfl tok5) ?_
 refine yR (ov_gtr rfl rfl rfl) ?_
 refine yM ?_
 refine yG (fun hg => OpX.v (ov_fieldAddr rfl rfl fa31_4 rfl)) ?_
 refine yG (fun hg => OpX.v (ov_load rfl (look_gv rfl (bq hg)) ye ⟨trivial, yn⟩ rfl rfl tok5)) ?_
 refine yG (fun hg => OpX.v (ov_gtr rfl (look_gv rfl (bq hg)) rfl)) ?_
 refine yR (ov_or rfl rfl rfl rfl (fun h => bq h)) ?_
 refine yM ?_
 refine yG (fun hg => OpX.v (ov_fieldAddr rfl rfl fa31_6 rfl)) ?_
 refine yG (fun hg => OpX.v (ov_load rfl (look_gv rfl (bq hg)) ye ⟨trivial, yn⟩ rfl rfl tok26)) ?_
 refine yG (fun hg => OpX.v (ov_lss rfl (look_gv rfl (bq hg)) rfl)) ?_
 refine yR (ov_or rfl rfl rfl rfl (fun h => bq h)) ?_
 refine yM ?_
 refine yG (fun hg => OpX.v (ov_fieldAddr rfl rfl fa31_6 rfl)) ?_
 refine yG (fun hg => OpX.v (ov_load rfl (look_gv rfl (bq hg)) ye ⟨trivial, yn⟩ rfl rfl tok26)) ?_
 refine yG (fun hg => OpX.v (ov_gtr rfl (look_gv rfl (bq hg)) rfl)) ?_
 refine yR (ov_or rfl rfl rfl rfl (fun h => bq h)) ?_
 refine RO_nil (W_cond rfl (fun hc1 => ?_) (fun hc1 => ?_))
 ·
  refine w1 ((yA_ ?_))
  refine RO_nil (W_ret ⟨trivial, yb, (ResV_tmp1 rfl rfl ?_)⟩)
  exact xcfy
 ·
  refine W_skip (W_seq (w1 ((yA_ ?_))))
  refine RO_nil (W_block (W_loop (σ := Nat) (fun i => i ≤ 64 ∧ okTo (plB p) i = true) (fun i => [(1, ptrv b1 posT []), (3, .int .i64 (i : Int))]) (fun i => .box b1 31 posT _ :: M) (fun i => 64 - i) (0) ⟨by omega, rfl⟩ ⟨rfl, rfl, trivial⟩ yb ?_))
  rintro i ⟨hI, hN⟩
  refine W_seq (w1 ((yM ?_)))
  refine yR (ov_lss rfl rfl rfl) ?_
  refine RO_nil (W_cond rfl (fun hc2 => ?_) (fun hc2 => ?_))
  ·
   try simp only [yS] at hc2
   refine W_skip (W_seq (W_block (w1 ((yM ?_)))))
   refine yR (ov_fieldAddr rfl rfl fa31_1 rfl) ?_
   refine yR (ov_indexAddr rfl rfl rfl Tryz.underlying22 rfl Tryz.sizeOf5 ya ya) ?_
   refine yR (ov_load rfl rfl ye ⟨⟨trivial, yn⟩, (tn ya ya)⟩ rfl rfl tok5) ?_
   refine yR (ov_neq rfl rfl rfl) ?_
   refine yM ?_
   refine gM ?_
   refine yG (fun hg => OpX.v (ov_fieldAddr rfl rfl fa31_1 rfl)) ?_
   refine yG (fun hg => OpX.v (ov_indexAddr rfl (look_gv rfl (bq hg)) (look_gv rfl (bq hg)) Tryz.underlying22 rfl Tryz.sizeOf5 ya ya)) ?_
   refine yG (fun hg => OpX.v (ov_load rfl (look_gv rfl (bq hg)) ye ⟨⟨trivial, yn⟩, (tn ya ya)⟩ rfl rfl tok5)) ?_
   refine yG (fun hg => yV rfl rfl (looks_cons (look_gv rfl (bq hg)) looks_nil) Tryz.call84 xany) ?_
   refine yG (fun hg => OpX.v (ov_eql rfl (look_gv rfl (bq hg)) rfl)) ?_
   refine yR (ov_and rfl rfl rfl rfl (fun h => bq h)) ?_
   refine RO_nil (W_cond rfl (fun hc3 => ?_) (fun hc3 => ?_))
   ·
    refine w1 ((yA_ ?_))
    refine RO_nil (W_ret ⟨trivial, yb, (ResV_tmp1 rfl rfl ?_)⟩)
    exact xcfy
   ·
    refine W_skip (W_reg (yM ?_))
    refine yR (ov_add rfl rfl rfl ya) ?_
    refine yA_ ?_
    refine RO_nil ?_
    exact ⟨i + 1, yo, ⟨by omega, okTo_next hN hc3⟩, ⟨rfl, rfl, trivial⟩, yb⟩
  ·
   try simp only [yS] at hc2
   refine W_exit (W_seq (w1 ((yA_ ?_))))
   refine RO_nil (W_block (W_loop (σ := Nat) (fun c => c ≤ 2 ∧ okTo (plC p) c = true) (fun c => [(1, ptrv b1 posT []), (4, .int .i64 (c : Int))]) (fun c => .box b1 31 posT _ :: M) (fun c => 2 - c) (0) ⟨by omega, rfl⟩ ⟨rfl, rfl, trivial⟩ yb ?_))
   rintro c ⟨hC, hP⟩
   refine W_seq (w1 ((yM ?_)))
   refine yR (ov_lss rfl rfl rfl) ?_
   refine RO_nil (W_cond rfl (fun hc4 => ?_) (fun hc4 => ?_))
   ·
    try simp only [yS] at hc4
    refine W_skip (W_seq (W_block (W_seq (w1 ((yA_ ?_))))))
    refine RO_nil (W_block (W_loop (σ := Nat) (fun j => j ≤ 2 ∧ okTo (plK p c) j = true) (fun j => [(1, ptrv b1 posT []), (4, .int .i64 (c : Int)), (5, .int .i64 (j : Int))]) (fun j => .box b1 31 posT _ :: M) (fun j => 2 - j) (0) ⟨by omega, rfl⟩ ⟨rfl, rfl, rfl, trivial⟩ yb ?_))
    rintro j ⟨hJ, hK⟩
    refine W_seq (w1 ((yM ?_)))
    refine yR (ov_lss rfl rfl rfl) ?_
    refine RO_nil (W_cond rfl (fun hc5 => ?_) (fun hc5 => ?_))
    ·
     try simp only [yS] at hc5
     refine W_skip (W_seq (W_block (w1 ((yM ?_)))))
     refine yM ?_
     refine yR (ov_fieldAddr rfl rfl fa31_5 rfl) ?_
     refine yR (ov_indexAddr rfl rfl rfl Tryz.underlying28 rfl Tryz.sizeOf27 ya ya) ?_
     refine yR (ov_indexAddr rfl rfl rfl Tryz.underlying27 rfl Tryz.sizeOf26 ya ya) ?_
     refine yR (ov_load rfl rfl ye ⟨⟨⟨trivial, yn⟩, (tn ya ya)⟩, (tn ya ya)⟩ rfl rfl tok26) ?_
     refine yR (ov_lss rfl rfl rfl) ?_
     refine yM ?_
     refine gM ?_
     refine gM ?_
     refine yG (fun hg => OpX.v (ov_fieldAddr rfl rfl fa31_5 rfl)) ?_
     refine yG (fun hg => OpX.v (ov_indexAddr rfl (look_gv rfl (bq hg)) (look_gv rfl (bq hg)) Tryz.underlying28 rfl Tryz.sizeOf27 ya ya)) ?_
     refine yG (fun hg => OpX.v (ov_indexAddr rfl (look_gv rfl (bq hg)) (look_gv rfl (bq hg)) Tryz.underlying27 rfl Tryz.sizeOf26 ya ya)) ?_
     refine yG (fun hg => OpX.v (ov_load rfl (look_gv rfl (bq hg)) ye ⟨⟨⟨trivial, yn⟩, (tn ya ya)⟩, (tn ya ya)⟩ rfl rfl tok26)) ?_
     refine yG (fun hg => OpX.v (ov_gtr rfl (look_gv rfl (bq hg)) rfl)) ?_
     refine yR (ov_or rfl rfl rfl rfl (fun h => bq h)) ?_
     refine RO_nil (W_cond rfl (fun hc6 => ?_) (fun hc6 => ?_))
     ·
      refine w1 ((yA_ ?_))
      refine RO_nil (W_ret ⟨trivial, yb, (ResV_tmp1 rfl rfl ?_)⟩)
      exact xcfy
     ·
      refine W_skip (W_reg (yM ?_))
      refine yR (ov_add rfl rfl rfl ya) ?_
      refine yA_ ?_
      refine RO_nil ?_
      exact ⟨j + 1, yo, ⟨by omega, okTo_next hK hc6⟩, ⟨rfl, rfl, rfl, trivial⟩, yb⟩
    ·
     try simp only [yS] at hc5
     refine W_exit (w1 ((yM ?_)))
     refine yR (ov_fieldAddr rfl rfl fa31_7 rfl) ?_
     refine yR (ov_indexAddr rfl rfl rfl Tryz.underlying29 rfl Tryz.sizeOf5 ya ya) ?_
     refine yR (ov_load rfl rfl ye ⟨⟨trivial, yn⟩, (tn ya ya)⟩ rfl rfl tok5) ?_
     refine yR (ov_gtr rfl rfl rfl) ?_
     refine yM ?_
     refine yG (fun hg => OpX.v (ov_fieldAddr rfl rfl fa31_0 rfl)) ?_
     refine yG (fun hg => OpX.v (ov_load rfl (look_gv rfl (bq hg)) ye ⟨trivial, yn⟩ rfl rfl tok5)) ?_
     refine yG (fun hg => OpX.v (ov_neq rfl (look_gv rfl (bq hg)) rfl)) ?_
     refine yG (fun hg => OpX.v (ov_move rfl (look_gv rfl (bq hg)))) ?_
     refine RO_g rfl rfl rfl rfl rfl yd (fun hg1 hg2 => OpX.v (ov_move rfl rfl)) ?_
     refine RO_g rfl rfl rfl rfl rfl yd (fun hg1 hg2 => OpX.v (ov_fieldAddr rfl rfl fa31_7 rfl)) ?_
     refine RO_g rfl rfl rfl rfl rfl yd (fun hg1 hg2 => OpX.v (ov_indexAddr rfl (look_gv rfl (bq2 hg1 hg2)) (look_gv rfl (bq2 hg1 hg2)) Tryz.underlying29 rfl Tryz.sizeOf5 ya ya)) ?_
     refine RO_g rfl rfl rfl rfl rfl yd (fun hg1 hg2 => OpX.v (ov_load rfl (look_gv rfl (bq2 hg1 hg2)) ye ⟨⟨trivial, yn⟩, (tn ya ya)⟩ rfl rfl tok5)) ?_
     refine RO_g rfl rfl rfl rfl rfl yd (fun hg1 hg2 => OpX.v (ov_neq rfl (look_gv rfl (bq2 hg1 hg2)) rfl)) ?_
     refine yG (fun hg => OpX.v (ov_and rfl (look_gv rfl (bq hg)) rfl rfl (fun h => bq2 (bq hg) h))) ?_
     refine yR (ov_or rfl rfl rfl rfl (fun h => bq h)) ?_
     refine RO_nil (W_cond rfl (fun hc7 => ?_) (fun hc7 => ?_))
     ·
      refine w1 ((yA_ ?_))
      refine RO_nil (W_ret ⟨trivial, yb, (ResV_tmp1 rfl rfl ?_)⟩)
      exact xcfy
     ·
      refine W_skip (W_reg (yM ?_))
      refine yR (ov_add rfl rfl rfl ya) ?_
      refine yA_ ?_
      refine RO_nil ?_
      exact ⟨c + 1, yo, ⟨by omega, okTo_next hP (plC_no yo hK hc7)⟩, ⟨rfl, rfl, trivial⟩, yb⟩
   ·
    try simp only [yS] at hc4
    refine W_exit (w1 ((yA_ ?_)))
    refine RO_nil (W_ret ⟨trivial, yb, (ResV_tmp1 rfl rfl ?_)⟩)
    exact xcfy

theorem c_ref12_kings (p : Pos) (hp : POK p) (M : List Fact) : Pure Tryz.prog 37 [enc posT p] M (.bool (kingsR p)) := by
 obtain ⟨hb, hpw, hvr, htu, hpg, hvr0, htu0⟩ := hp.head
 refine pure_of_W (n := 43) Tryz.func37 rfl rfl yn ?_
 refine w2 (fun w0 => ?_)
 refine LO_l rfl (by decide : 1 < 43) (ol_box (t := posT) rfl rfl rfl yf (fun b1 => ?_))
 refine zA ?_
 refine LO_nil (W_seq (w1 ((yA_ ?_))))
 refine RO_nil (W_block (W_loop (σ := Nat) (fun i => i ≤ 2 ∧ okTo (kgB p) i = true) (fun i => [(1, ptrv b1 posT []), (3, .int .u8 (i : Int))]) (fun i => .box b1 31 posT _ :: M) (fun i => 2 - i) (0) ⟨by omega, rfl⟩ ⟨rfl, rfl, trivial⟩ yb ?_))
 rintro i ⟨hI, hN⟩
 refine W_seq (w1 ((yM ?_)))
 refine yR (ov_lss rfl rfl rfl) ?_
 refine RO_nil (W_cond rfl (fun hc1 => ?_) (fun hc1 => ?_))
 ·
  try simp only [yS] at hc1
  refine W_skip (W_seq (W_block (w1 ((yR (ov_load rfl rfl ye trivial rfl rfl tok31) ?_)))))
  refine yM ?_
  refine yP (yV rfl rfl rfl Tryz.call85 (c_ref12_count p hp (i : Int) 6 _)) ?_
  refine yA_ ?_
  refine RO_nil (W_block (w1 ((yR (ov_fieldAddr rfl rfl fa31_0 rfl) ?_))))
  refine yR (ov_load rfl rfl ye ⟨trivial, yn⟩ rfl rfl tok5) ?_
  refine yR (ov_eql rfl rfl rfl) ?_
  refine yA_ ?_
  refine RO_nil (W_cond rfl (fun hc2 => ?_) (fun hc2 => ?_))
  ·
   refine W_skip (W_reg (yM ?_))
   refine yR (ov_add rfl rfl rfl ya) ?_
   refine yA_ ?_
   refine RO_nil ?_
   exact ⟨i + 1, yo, ⟨by omega, okTo_next hN (by first | exact kg_a hc2 | exact kg_b hc2 hc3 hc4 | exact kg_c hc2 hc3 hc5 | exact kg_d hc2 hc3 hc5 hc6)⟩, ⟨rfl, rfl, trivial⟩, yb⟩
  ·
   refine w1 ((yR (ov_fieldAddr rfl rfl fa31_0 rfl) ?_))
   refine yR (ov_load rfl rfl ye ⟨trivial, yn⟩ rfl rfl tok5) ?_
   refine yR (ov_eql rfl rfl rfl) ?_
   refine yM ?_
   refine gM ?_
   refine yG (fun hg => OpX.v (ov_eql rfl (look_gv rfl (bq hg)) rfl)) ?_
   refine yR (ov_and rfl rfl rfl rfl (fun h => bq h)) ?_
   refine yA_ ?_
   refine RO_nil (W_cond rfl (fun hc3 => ?_) (fun hc3 => ?_))
   ·
    refine w1 ((yM ?_))
    refine yR (ov_gtr rfl rfl rfl) ?_
    refine RO_nil (W_cond rfl (fun hc4 => ?_) (fun hc4 => ?_))
    ·
     refine w1 ((yA_ ?_))
     refine RO_nil (W_ret ⟨trivial, yb, (ResV_tmp1 rfl rfl ?_)⟩)
     exact xcgy
    ·
     refine W_skip (W_reg (yM ?_))
     refine yR (ov_add rfl rfl rfl ya) ?_
     refine yA_ ?_
     refine RO_nil ?_
     exact ⟨i + 1, yo, ⟨by omega, okTo_next hN (by first | exact kg_a hc2 | exact kg_b hc2 hc3 hc4 | exact kg_c hc2 hc3 hc5 | exact kg_d hc2 hc3 hc5 hc6)⟩, ⟨rfl, rfl, trivial⟩, yb⟩
   ·
    refine w1 ((yM ?_))
    refine yR (ov_eql rfl rfl rfl) ?_
    refine yM ?_
    refine yG (fun hg => OpX.v (ov_fieldAddr rfl rfl fa31_0 rfl)) ?_
    refine yG (fun hg => OpX.v (ov_load rfl (look_gv rfl (bq hg)) ye ⟨trivial, yn⟩ rfl rfl tok5)) ?_
    refine yG (fun hg => OpX.v (ov_eql rfl (look_gv rfl (bq hg)) rfl)) ?_
    refine yR (ov_and rfl rfl rfl rfl (fun h => bq h)) ?_
    refine yM ?_
    refine gM ?_
    refine yG (fun hg => OpX.v (ov_fieldAddr rfl rfl fa31_4 rfl)) ?_
    refine yG (fun hg => OpX.v (ov_load rfl (look_gv rfl (bq hg)) ye ⟨trivial, yn⟩ rfl rfl tok5)) ?_
    refine yG (fun hg => OpX.v (ov_eql rfl (look_gv rfl (bq hg)) (look_gv rfl (bq hg)))) ?_
    refine yR (ov_and rfl rfl rfl rfl (fun h => bq h)) ?_
    refine yA_ ?_
    refine RO_nil (W_cond rfl (fun hc5 => ?_) (fun hc5 => ?_))
    ·
     refine W_skip (W_reg (yM ?_))
     refine yR (ov_add rfl rfl rfl ya) ?_
     refine yA_ ?_
     refine RO_nil ?_
     exact ⟨i + 1, yo, ⟨by omega, okTo_next hN (by first | exact kg_a hc2 | exact kg_b hc2 hc3 hc4 | exact kg_c hc2 hc3 hc5 | exact kg_d hc2 hc3 hc5 hc6)⟩, ⟨rfl, rfl, trivial⟩, yb⟩
    ·
     refine w1 ((yM ?_))
     refine yR (ov_neq rfl rfl rfl) ?_
     refine yA_ ?_
     refine RO_nil (W_cond rfl (fun hc6 => ?_) (fun hc6 => ?_))
     ·
      refine w1 ((yA_ ?_))
      refine RO_nil (W_ret ⟨trivial, yb, (ResV_tmp1 rfl rfl ?_)⟩)
      exact xcgy
     ·
      refine W_skip (W_reg (yM ?_))
      refine yR (ov_add rfl rfl rfl ya) ?_
      refine yA_ ?_
      refine RO_nil ?_
      exact ⟨i + 1, yo, ⟨by omega, okTo_next hN (by first | exact kg_a hc2 | exact kg_b hc2 hc3 hc4 | exact kg_c hc2 hc3 hc5 | exact kg_d hc2 hc3 hc5 hc6)⟩, ⟨rfl, rfl, trivial⟩, yb⟩
 ·
  try simp only [yS] at hc1
  refine W_exit (w1 ((yA_ ?_)))
  refine RO_nil (W_ret ⟨trivial, yb, (ResV_tmp1 rfl rfl ?_)⟩)
  exact xcgy

theorem c_ref12_pawns (p : Pos) (hp : POK p) (M : List Fact) : Pure Tryz.prog 38 [enc posT p] M (.bool (pawnsR p)) := by
 obtain ⟨hb, hpw, hvr, htu, hpg, hvr0, htu0⟩ := hp.head
 refine pure_of_W (n := 35) Tryz.func38 rfl rfl yn ?_
 refine w2 (fun w0 => ?_)
 refine LO_l rfl (by decide : 1 < 35) (ol_box (t := posT) rfl rfl rfl yf (fun b1 => ?_))
 refine zA ?_
 refine LO_nil (W_seq (w1 ((yA_ ?_))))
 refine RO_nil (W_block (W_loop (σ := Nat) (fun i => i ≤ 64 ∧ okTo (pwB p) i = true) (fun i => [(1, ptrv b1 posT []), (3, .int .i64 (i : Int))]) (fun i => .box b1 31 posT _ :: M) (fun i => 64 - i) (0) ⟨by omega, rfl⟩ ⟨rfl, rfl, trivial⟩ yb ?_))
 rintro i ⟨hI, hN⟩
 refine W_seq (w1 ((yM ?_)))
 refine yR (ov_lss rfl rfl rfl) ?_
 refine RO_nil (W_cond rfl (fun hc1 => ?_) (fun hc1 => ?_))
 ·
  try simp only [yS] at hc1
  refine W_skip (W_seq (W_block (W_seq (w1 ((yM ?_))))))
  refine yR (ov_fieldAddr rfl rfl fa31_1 rfl) ?_
  refine yR (ov_indexAddr rfl rfl rfl Tryz.underlying22 rfl Tryz.sizeOf5 ya ya) ?_
  refine yR (ov_load rfl rfl ye ⟨⟨trivial, yn⟩, (tn ya ya)⟩ rfl rfl tok5) ?_
  refine yP (yV rfl rfl rfl Tryz.call84 xany) ?_
  refine yR (ov_neq rfl rfl rfl) ?_
  refine RO_nil (W_cond rfl (fun hc2 => ?_) (fun hc2 => ?_))
  ·
   refine W_exit (W_reg (yM ?_))
   refine yR (ov_add rfl rfl rfl ya) ?_
   refine yA_ ?_
   refine RO_nil ?_
   exact ⟨i + 1, yo, ⟨by omega, okTo_next hN (by first | exact pw_a hc2 | exact pw_b hc2 hc3 hc4)⟩, ⟨rfl, rfl, trivial⟩, yb⟩
  ·
   refine W_skip (W_seq (w1 ((yR (ov_fieldAddr rfl rfl fa31_0 rfl) ?_))))
   refine yR (ov_load rfl rfl ye ⟨trivial, yn⟩ rfl rfl tok5) ?_
   refine yR (ov_eql rfl rfl rfl) ?_
   refine yM ?_
   refine gM ?_
   refine yG (fun hg => OpX.v (ov_gtr rfl (look_gv rfl (bq hg)) rfl)) ?_
   refine yR (ov_or rfl rfl rfl rfl (fun h => bq h)) ?_
   refine RO_nil (W_cond rfl (fun hc3 => ?_) (fun hc3 => ?_))
   ·
    refine w1 ((yA_ ?_))
    refine RO_nil (W_ret ⟨trivial, yb, (ResV_tmp1 rfl rfl ?_)⟩)
    exact xchy
   ·
    refine W_skip (w1 ((yM ?_)))
    refine yR (ov_lss rfl rfl rfl) ?_
    refine yM ?_
    refine yG (fun hg => OpX.v (ov_fieldAddr rfl rfl fa31_0 rfl)) ?_
    refine yG (fun hg => OpX.v (ov_load rfl (look_gv rfl (bq hg)) ye ⟨trivial, yn⟩ rfl rfl tok5)) ?_
    refine yG (fun hg => OpX.v (ov_neq rfl (look_gv rfl (bq hg)) rfl)) ?_
    refine yG (fun hg => OpX.v (ov_move rfl (look_gv rfl (bq hg)))) ?_
    refine RO_g rfl rfl rfl rfl rfl yd (fun hg1 hg2 => OpX.v (ov_move rfl rfl)) ?_
    refine RO_g rfl rfl rfl rfl rfl yd (fun hg1 hg2 => OpX.v (ov_fieldAddr rfl rfl fa31_1 rfl)) ?_
    refine RO_g rfl rfl rfl rfl rfl yd (fun hg1 hg2 => OpX.v (ov_indexAddr rfl (look_gv rfl (bq2 hg1 hg2)) (look_gv rfl (bq2 hg1 hg2)) Tryz.underlying22 rfl Tryz.sizeOf5 ya ya)) ?_
    refine RO_g rfl rfl rfl rfl rfl yd (fun hg1 hg2 => OpX.v (ov_load rfl (look_gv rfl (bq2 hg1 hg2)) ye ⟨⟨trivial, yn⟩, (tn ya ya)⟩ rfl rfl tok5)) ?_
    refine RO_g rfl rfl rfl rfl rfl yd (fun hg1 hg2 => OpX.v (ov_neq rfl (look_gv rfl (bq2 hg1 hg2)) rfl)) ?_
    refine yG (fun hg => OpX.v (ov_or rfl (look_gv rfl (bq hg)) rfl rfl (fun h => bq2 (bq hg) h))) ?_
    refine yR (ov_and rfl rfl rfl rfl (fun h => bq h)) ?_
    refine RO_nil (W_cond rfl (fun hc4 => ?_) (fun hc4 => ?_))
    ·
     refine w1 ((yA_ ?_))
     refine RO_nil (W_ret ⟨trivial, yb, (ResV_tmp1 rfl rfl ?_)⟩)
     exact xchy
    ·
     refine W_skip (W_reg (yM ?_))
     refine yR (ov_add rfl rfl rfl ya) ?_
     refine yA_ ?_
     refine RO_nil ?_
     exact ⟨i + 1, yo, ⟨by omega, okTo_next hN (by first | exact pw_a hc2 | exact pw_b hc2 hc3 hc4)⟩, ⟨rfl, rfl, trivial⟩, yb⟩
 ·
  try simp only [yS] at hc1
  refine W_exit (w1 ((yA_ ?_)))
  refine RO_nil (W_ret ⟨trivial, yb, (ResV_tmp1 rfl rfl ?_)⟩)
  exact xchy

theorem c_ref15_Held (p : Pos) (hp : POK p) (c : Int) (M : List Fact) (h0 : 0 ≤ c) (h1 : c ≤ 1) : Pure Tryz.prog 149 [enc posT p, .int .u8 c] M (.int .i64 (heldTo p c 5)) := by
 obtain ⟨hb, hpw, hvr, htu, hpg, hvr0, htu0⟩ := hp.head
 refine pure_of_W (n := 25) Tryz.func149 rfl rfl yn ?_
 refine w2 (fun w0 => ?_)
 refine LO_l rfl (by decide : 2 < 25) (ol_box (t := posT) rfl rfl rfl yf (fun b1 => ?_))
 refine zA ?_
 refine LO_nil (w1 ((yA_ ?_)))
 refine RO_nil (W_seq (w1 ((yA_ ?_))))
 refine RO_nil (W_block (W_loop (σ := Nat) (fun i => i ≤ 5) (fun i => [(1, .int .u8 c), (2, ptrv b1 posT []), (5, .int .i64 (heldTo p c i)), (6, .int .i64 ((i : Int) + 1))]) (fun i => .box b1 31 posT _ :: M) (fun i => 5 - i) (0) yo ⟨rfl, rfl, rfl, rfl, trivial⟩ yb ?_))
 rintro i hI
 refine W_seq (w1 ((yM ?_)))
 refine yR (ov_leq rfl rfl rfl) ?_
 refine yM ?_
 refine gM ?_
 refine yG (fun hg => OpX.v (ov_lss rfl (look_gv rfl (bq hg)) rfl)) ?_
 refine yR (ov_and rfl rfl rfl rfl (fun h => bq h)) ?_
 refine RO_nil (W_cond rfl (fun hc1 => ?_) (fun hc1 => ?_))
 ·
  have hi5 : i < 5 := by have := of_decide_eq_true (Bool.and_eq_true_iff.1 hc1).1; omega
  have hhr := heldTo_rng hp c i yo
  have hpr : 0 ≤ (pkAt p c ((i : Int) + 1)) ∧ (pkAt p c ((i : Int) + 1)) ≤ 255 := pkAt_rng hp c ((i : Int) + 1)
  have hpr0 : @LE.le Int _ 0 ((p.2.2.2.1.getD c.toNat (zero (.ar 6 u8))).getD ((i : Int) + 1).toNat (zero u8)) ∧ @LE.le Int _ ((p.2.2.2.1.getD c.toNat (zero (.ar 6 u8))).getD ((i : Int) + 1).toNat (zero u8)) 255 := hpr
  refine W_skip (W_seq (W_block (W_reg (yM ?_))))
  refine yM ?_
  refine yM ?_
  refine yR (ov_fieldAddr rfl rfl fa31_3 rfl) ?_
  refine yR (ov_indexAddr rfl rfl rfl Tryz.underlying25 rfl Tryz.sizeOf24 ya ya) ?_
  refine yR (ov_indexAddr rfl rfl rfl Tryz.underlying24 rfl Tryz.sizeOf5 ya ya) ?_
  refine yR (ov_load rfl rfl ye ⟨⟨⟨trivial, yn⟩, (tn ya ya)⟩, (tn ya ya)⟩ rfl rfl tok5) ?_
  refine yR (ov_convn rfl rfl Tryz.underlying5 Tryz.underlying3 ya) ?_
  refine yR (ov_add rfl rfl rfl ya) ?_
  refine yA_ ?_
  refine RO_nil (W_reg (yM ?_))
  refine yR (ov_add rfl rfl rfl ya) ?_
  refine yA_ ?_
  refine RO_nil ?_
  exact ⟨i + 1, yo, yo, ⟨rfl, rfl, rfl, rfl, trivial⟩, yb⟩
 ·
  have hi5 : i = 5 := by (have hx := hc1; simp only [Bool.and_eq_false_iff, decide_eq_false_iff_not] at hx; omega)
  refine W_exit (w1 ((yM ?_)))
  refine yA_ ?_
  refine RO_nil (W_ret ⟨trivial, yb, (ResV_tmp1 rfl rfl ?_)⟩)
  exact val_int (by rw [hi5])

theorem c_ref15_Men (p : Pos) (hp : POK p) (M : List Fact) : Pure Tryz.prog 86 [enc posT p] M (.int .i64 (manC p)) := by
 obtain ⟨hb, hpw, hvr, htu, hpg, hvr0, htu0⟩ := hp.head
 have hh0 := heldTo_rng hp 0 5 yo
 have hh1 := heldTo_rng hp 1 5 yo
 refine pure_of_W (n := 23) Tryz.func86 rfl rfl yn ?_
 refine w2 (fun w0 => ?_)
 refine LO_l rfl (by decide : 1 < 23) (ol_box (t := posT) rfl rfl rfl yf (fun b1 => ?_))
 refine zA ?_
 refine LO_nil (W_seq (W_regd mixed yk ?_))
 refine yR (ov_load rfl rfl ye trivial rfl rfl tok31) ?_
 refine yP (yV rfl rfl rfl Tryz.call149 (c_ref15_Held p hp 0 _ yd yd)) ?_
 refine yR (ov_load rfl rfl ye trivial rfl rfl tok31) ?_
 refine yP (yV rfl rfl rfl Tryz.call149 (c_ref15_Held p hp 1 _ yd yd)) ?_
 refine yR (ov_add rfl rfl rfl ya) ?_
 refine yA_ ?_
 refine RO_nil (W_seq (w1 ((yA_ ?_))))
 refine RO_nil (W_block (W_loop (σ := Nat) (fun i => i ≤ 64) (fun i => [(1, ptrv b1 posT []), (3, .int .i64 ((heldTo p 0 5 + heldTo p 1 5) + cntF (fun s : Nat => !decide (kind (pb p (s : Int)) = 0)) i)), (4, .int .i64 (i : Int))]) (fun i => .box b1 31 posT _ :: M) (fun i => 64 - i) (0) yo ⟨rfl, congrArg some (val_int (Int.add_zero _).symm), rfl, trivial⟩ yb ?_))
 rintro i hI
 refine W_seq (w1 ((yM ?_)))
 refine yR (ov_lss rfl rfl rfl) ?_
 refine RO_nil (W_cond rfl (fun hc1 => ?_) (fun hc1 => ?_))
 ·
  try simp only [yS] at hc1
  have hcr := cntF_rng (fun s : Nat => !decide (kind (pb p (s : Int)) = 0)) i
  refine W_skip (W_seq (W_block (w1 ((yM ?_)))))
  refine yR (ov_fieldAddr rfl rfl fa31_1 rfl) ?_
  refine yR (ov_indexAddr rfl rfl rfl Tryz.underlying22 rfl Tryz.sizeOf5 ya ya) ?_
  refine yR (ov_load rfl rfl ye ⟨⟨trivial, yn⟩, (tn ya ya)⟩ rfl rfl tok5) ?_
  refine yP (yV rfl rfl rfl Tryz.call84 xany) ?_
  refine yR (ov_neq rfl rfl rfl) ?_
  refine RO_nil (W_cond rfl (fun hc2 => ?_) (fun hc2 => ?_))
  ·
   refine W_reg (yM ?_)
   refine yR (ov_add rfl rfl rfl ya) ?_
   refine yA_ ?_
   refine RO_nil (W_reg (yM ?_))
   refine yR (ov_add rfl rfl rfl ya) ?_
   refine yA_ ?_
   refine RO_nil ?_
   exact ⟨i + 1, yo, yo, ⟨rfl, congrArg some (val_int (by first | rw [cntF_y (f := (fun s : Nat => !decide (kind (pb p (s : Int)) = 0))) hc2, Int.add_assoc] | rw [cntF_n (f := (fun s : Nat => !decide (kind (pb p (s : Int)) = 0))) hc2])), rfl, trivial⟩, yb⟩
  ·
   refine W_skip (W_reg (yM ?_))
   refine yR (ov_add rfl rfl rfl ya) ?_
   refine yA_ ?_
   refine RO_nil ?_
   exact ⟨i + 1, yo, yo, ⟨rfl, congrArg some (val_int (by first | rw [cntF_y (f := (fun s : Nat => !decide (kind (pb p (s : Int)) = 0))) hc2, Int.add_assoc] | rw [cntF_n (f := (fun s : Nat => !decide (kind (pb p (s : Int)) = 0))) hc2])), rfl, trivial⟩, yb⟩
 ·
  try simp only [yS] at hc1
  refine W_exit (w1 ((yM ?_)))
  refine yA_ ?_
  refine RO_nil (W_ret ⟨trivial, yb, (ResV_tmp1 rfl rfl ?_)⟩)
  exact val_int (by rw [show i = 64 by omega]; rfl)

theorem c_ref12_pockets (p : Pos) (hp : POK p) (M : List Fact) : Pure Tryz.prog 39 [enc posT p] M (.bool (pocketsR p)) := by
 obtain ⟨hb, hpw, hvr, htu, hpg, hvr0, htu0⟩ := hp.head
 have hwk := hpw.2.2.2.1
 refine pure_of_W (n := 62) Tryz.func39 rfl rfl yn ?_
 refine w2 (fun w0 => ?_)
 refine LO_l rfl (by decide : 1 < 62) (ol_box (t := posT) rfl rfl rfl yf (fun b1 => ?_))
 refine zA ?_
 refine LO_nil (W_seq (w1 ((yR (ov_fieldAddr rfl rfl fa31_0 rfl) ?_))))
 refine yR (ov_load rfl rfl ye ⟨trivial, yn⟩ rfl rfl tok5) ?_
 refine yR (ov_neq rfl rfl rfl) ?_
 refine RO_nil (W_cond rfl (fun hc1 => ?_) (fun hc1 => ?_))
 ·
  refine w1 ((yR (ov_fieldAddr rfl rfl fa31_3 rfl) ?_))
  refine yR (ov_load rfl rfl ye ⟨trivial, yn⟩ rfl rfl tok25) ?_
  refine yR (ov_buildA (t := (.ar 6 u8)) (ds := []) rfl rfl bl25 trivial rfl) ?_
  refine yR (ov_eqlA (t := (.ar 2 (.ar 6 u8))) (d := 6) rfl rfl rfl rfl yn eqt25 eqg25 yf yf) ?_
  refine yM ?_
  refine yG (fun hg => OpX.v (ov_fieldAddr rfl rfl fa31_2 rfl)) ?_
  refine yG (fun hg => OpX.v (ov_load rfl (look_gv rfl (bq hg)) ye ⟨trivial, yn⟩ rfl rfl tok23)) ?_
  refine yG (fun hg => OpX.v (ov_eql64 (b := 0#64) rfl (look_gv rfl (bq hg)) rfl)) ?_
  refine yR (ov_and rfl rfl rfl rfl (fun h => bq h)) ?_
  refine yA_ ?_
  refine RO_nil (W_ret ⟨trivial, yb, (ResV_tmp1 rfl rfl ?_)⟩)
  first | exact val_bool (pc_a hc1) | exact val_bool (pc_b hc1 yo hc3) | exact val_bool (pc_c hc1 (i := i) yo hN)
 ·
  refine W_skip (W_seq (w1 ((yA_ ?_))))
  refine RO_nil (W_block (W_loop (σ := Nat) (fun i => i ≤ 64 ∧ okTo (pcB p) i = true) (fun i => [(1, ptrv b1 posT []), (3, .int .i64 (i : Int))]) (fun i => .box b1 31 posT _ :: M) (fun i => 64 - i) (0) ⟨by omega, rfl⟩ ⟨rfl, rfl, trivial⟩ yb ?_))
  rintro i ⟨hI, hN⟩
  refine W_seq (w1 ((yM ?_)))
  refine yR (ov_lss rfl rfl rfl) ?_
  refine RO_nil (W_cond rfl (fun hc2 => ?_) (fun hc2 => ?_))
  ·
   try simp only [yS] at hc2
   refine W_skip (W_seq (W_block (w1 ((yM ?_)))))
   refine yR (ov_fieldAddr rfl rfl fa31_1 rfl) ?_
   refine yR (ov_indexAddr rfl rfl rfl Tryz.underlying22 rfl Tryz.sizeOf5 ya ya) ?_
   refine yR (ov_load rfl rfl ye ⟨⟨trivial, yn⟩, (tn ya ya)⟩ rfl rfl tok5) ?_
   refine yP (yV rfl rfl rfl Tryz.call84 xany) ?_
   refine yA_ ?_
   refine RO_nil (w1 ((yR (ov_fieldAddr rfl rfl fa31_2 rfl) ?_)))
   refine yR (ov_load rfl rfl ye ⟨trivial, yn⟩ rfl rfl tok23) ?_
   refine yM ?_
   refine yR (ov_conv64 rfl rfl Tryz.underlying3 Tryz.underlying111) ?_
   refine yR (ov_shr64 rfl rfl rfl ya) ?_
   refine yR (ov_bits (b := 1#64) rfl rfl rfl (.inl ⟨rfl, rfl⟩)) ?_
   refine yR (ov_eql64 (b := 1#64) rfl rfl rfl) ?_
   refine yM ?_
   refine gM ?_
   refine yG (fun hg => OpX.v (ov_eql rfl (look_gv rfl (bq hg)) rfl)) ?_
   refine yG (fun hg => OpX.v (ov_move rfl (look_gv rfl (bq hg)))) ?_
   refine RO_g rfl rfl rfl rfl rfl yd (fun hg1 hg2 => OpX.v (ov_move rfl rfl)) ?_
   refine RO_g rfl rfl rfl rfl rfl yd (fun hg1 hg2 => OpX.v (ov_eql rfl (look_gv rfl (bq2 hg1 hg2)) rfl)) ?_
   refine yG (fun hg => OpX.v (ov_or rfl (look_gv rfl (bq hg)) rfl rfl (fun h => bq2 (bq hg) h))) ?_
   refine yG (fun hg => OpX.v (ov_move rfl (look_gv rfl (bq hg)))) ?_
   refine RO_g rfl rfl rfl rfl rfl yd (fun hg1 hg2 => OpX.v (ov_move rfl rfl)) ?_
   refine RO_g rfl rfl rfl rfl rfl yd (fun hg1 hg2 => OpX.v (ov_eql rfl (look_gv rfl (bq2 hg1 hg2)) rfl)) ?_
   refine yG (fun hg => OpX.v (ov_or rfl (look_gv rfl (bq hg)) rfl rfl (fun h => bq2 (bq hg) h))) ?_
   refine yR (ov_and rfl rfl rfl rfl (fun h => bq h)) ?_
   refine RO_nil (W_cond rfl (fun hc3 => ?_) (fun hc3 => ?_))
   ·
    refine w1 ((yA_ ?_))
    refine RO_nil (W_ret ⟨trivial, yb, (ResV_tmp1 rfl rfl ?_)⟩)
    first | exact val_bool (pc_a hc1) | exact val_bool (pc_b hc1 yo hc3) | exact val_bool (pc_c hc1 (i := i) yo hN)
   ·
    refine W_skip (W_reg (yM ?_))
    refine yR (ov_add rfl rfl rfl ya) ?_
    refine yA_ ?_
    refine RO_nil ?_
    exact ⟨i + 1, yo, ⟨by omega, okTo_next hN hc3⟩, ⟨rfl, rfl, trivial⟩, yb⟩
  ·
   try simp only [yS] at hc2
   refine W_exit (w1 ((yR (ov_fieldAddr rfl rfl fa31_3 rfl) ?_)))
   refine yR (ov_indexAddr rfl rfl rfl Tryz.underlying25 rfl Tryz.sizeOf24 ya ya) ?_
   refine yR (ov_indexAddr rfl rfl rfl Tryz.underlying24 rfl Tryz.sizeOf5 ya ya) ?_
   refine yR (ov_load rfl rfl ye ⟨⟨⟨trivial, yn⟩, (tn ya ya)⟩, (tn ya ya)⟩ rfl rfl tok5) ?_
   refine yR (ov_eql rfl rfl rfl) ?_
   refine yM ?_
   refine yG (fun hg => OpX.v (ov_fieldAddr rfl rfl fa31_3 rfl)) ?_
   refine yG (fun hg => OpX.v (ov_indexAddr rfl (look_gv rfl (bq hg)) rfl Tryz.underlying25 rfl Tryz.sizeOf24 ya ya)) ?_
   refine yG (fun hg => OpX.v (ov_indexAddr rfl (look_gv rfl (bq hg)) rfl Tryz.underlying24 rfl Tryz.sizeOf5 ya ya)) ?_
   refine yG (fun hg => OpX.v (ov_load rfl (look_gv rfl (bq hg)) ye ⟨⟨⟨trivial, yn⟩, (tn ya ya)⟩, (tn ya ya)⟩ rfl rfl tok5)) ?_
   refine yG (fun hg => OpX.v (ov_eql rfl (look_gv rfl (bq hg)) rfl)) ?_
   refine yR (ov_and rfl rfl rfl rfl (fun h => bq h)) ?_
   refine yM ?_
   refine yG (fun hg => OpX.v (ov_load rfl rfl ye trivial rfl rfl tok31)) ?_
   refine yG (fun hg => yV rfl rfl (looks_cons (look_gv rfl (bq hg)) looks_nil) Tryz.call86 (by apply c_ref15_Men <;> exact yz)) ?_
   refine yG (fun hg => OpX.v (ov_leq rfl (look_gv rfl (bq hg)) rfl)) ?_
   refine yR (ov_and rfl rfl rfl rfl (fun h => bq h)) ?_
   refine yA_ ?_
   refine RO_nil (W_ret ⟨trivial, yb, (ResV_tmp1 rfl rfl ?_)⟩)
   first | exact val_bool (pc_a hc1) | exact val_bool (pc_b hc1 yo hc3) | exact val_bool (pc_c hc1 (i := i) yo hN)

theorem c_ref12_Right (p : Pos) (hp : POK p) (c sd : Int) (M : List Fact) (h0 : 0 ≤ c) (h1 : c ≤ 1) (h2 : 0 ≤ sd) (h3 : sd ≤ 1) (hf : -1 ≤ (rkAt p c sd) ∧ (rkAt p c sd) ≤ 7) : Pure Tryz.prog 40 [enc posT p, .int .u8 c, .int .i64 sd] M (.bool (rightC p c sd)) := by
 obtain ⟨hb, hpw, hvr, htu, hpg, hvr0, htu0⟩ := hp.head
 have hf0 : @LE.le Int _ (-1) ((p.2.2.2.2.2.1.getD c.toNat (zero (.ar 2 i8))).getD sd.toNat (zero i8)) ∧ @LE.le Int _ ((p.2.2.2.2.2.1.getD c.toNat (zero (.ar 2 i8))).getD sd.toNat (zero i8)) 7 := hf
 have hkr := find_rng p c 6
 refine pure_of_W (n := 81) Tryz.func40 rfl rfl yn ?_
 refine w2 (fun w0 => ?_)
 refine LO_l rfl (by decide : 3 < 81) (ol_box (t := posT) rfl rfl rfl yf (fun b1 => ?_))
 refine zA ?_
 refine LO_nil (w1 ((yM ?_)))
 refine yM ?_
 refine yR (ov_fieldAddr rfl rfl fa31_5 rfl) ?_
 refine yR (ov_indexAddr rfl rfl rfl Tryz.underlying28 rfl Tryz.sizeOf27 ya ya) ?_
 refine yR (ov_indexAddr rfl rfl rfl Tryz.underlying27 rfl Tryz.sizeOf26 ya ya) ?_
 refine yR (ov_load rfl rfl ye ⟨⟨⟨trivial, yn⟩, (tn ya ya)⟩, (tn ya ya)⟩ rfl rfl tok26) ?_
 refine yR (ov_convn rfl rfl Tryz.underlying26 Tryz.underlying3 ya) ?_
 refine yA_ ?_
 refine RO_nil (W_seq (w1 ((yM ?_))))
 refine yR (ov_eql rfl rfl rfl) ?_
 refine RO_nil (W_cond rfl (fun hc1 => ?_) (fun hc1 => ?_))
 ·
  refine w1 ((yA_ ?_))
  refine RO_nil (W_ret ⟨trivial, yb, (ResV_tmp1 rfl rfl ?_)⟩)
  exact xciy
 ·
  have hf1 : ¬ @Eq Int ((p.2.2.2.2.2.1.getD c.toNat (zero (.ar 2 i8))).getD sd.toNat (zero i8)) (-1) := of_decide_eq_false hc1
  refine W_skip (W_seq (w1 ((yR (ov_fieldAddr rfl rfl fa31_0 rfl) ?_))))
  refine yR (ov_load rfl rfl ye ⟨trivial, yn⟩ rfl rfl tok5) ?_
  refine yP (yV rfl rfl rfl Tryz.call87 (by apply c_ref07_Castles <;> exact yz)) ?_
  refine yR (ov_not rfl rfl) ?_
  refine RO_nil (W_cond rfl (fun hc2 => ?_) (fun hc2 => ?_))
  ·
   refine w1 ((yA_ ?_))
   refine RO_nil (W_ret ⟨trivial, yb, (ResV_tmp1 rfl rfl ?_)⟩)
   exact xciy
  ·
   refine W_skip (w1 ((yM ?_)))
   refine yR (ov_convn rfl rfl Tryz.underlying5 Tryz.underlying3 ya) ?_
   refine yR (ov_mul rfl rfl rfl ya) ?_
   refine yA_ ?_
   refine RO_nil (w1 ((yR (ov_load rfl rfl ye trivial rfl rfl tok31) ?_)))
   refine yM ?_
   refine yP (yV rfl rfl rfl Tryz.call88 (c_ref08_Find p hp c 6 _)) ?_
   refine yA_ ?_
   refine RO_nil (W_seq (w1 ((yM ?_))))
   refine yR (ov_lss rfl rfl rfl) ?_
   refine yM ?_
   refine gM ?_
   refine RO_g1 rfl rfl rfl rfl rfl yd (fun hg => by have hgx := hg; (try simp only [yS] at hgx); exact OpX.v (ov_quo_pos rfl (look_gv rfl (bq hg)) rfl ya ya ya)) ?_
   refine gM ?_
   refine yG (fun hg => OpX.v (ov_neq rfl (look_gv rfl (bq hg)) (look_gv rfl (bq hg)))) ?_
   refine yR (ov_or rfl rfl rfl rfl (fun h => bq h)) ?_
   refine yM ?_
   refine yG (fun hg => OpX.v (ov_load rfl rfl ye trivial rfl rfl tok31)) ?_
   refine gM ?_
   refine yG (fun hg => OpX.v (ov_mul rfl rfl (look_gv rfl (bq hg)) ya)) ?_
   refine gM ?_
   refine yG (fun hg => OpX.v (ov_add rfl (look_gv rfl (bq hg)) (look_gv rfl (bq hg)) ya)) ?_
   refine gM ?_
   refine yG (fun hg => yV rfl rfl (looks_cons (look_gv rfl (bq hg)) (looks_cons (look_gv rfl (bq hg)) (looks_cons (look_gv rfl (bq hg)) (looks_cons rfl looks_nil)))) Tryz.call89 (c_ref08_Is p hp _ c 4 _ yo yo)) ?_
   refine yG (fun hg => OpX.v (ov_not rfl (look_gv rfl (bq hg)))) ?_
   refine yR (ov_or rfl rfl rfl rfl (fun h => bq h)) ?_
   refine RO_nil (W_cond rfl (fun hc3 => ?_) (fun hc3 => ?_))
   ·
    refine w1 ((yA_ ?_))
    refine RO_nil (W_ret ⟨trivial, yb, (ResV_tmp1 rfl rfl ?_)⟩)
    exact xciy
   ·
    have hk0 : 0 ≤ find p c 6 := Int.not_lt.1 (of_decide_eq_false (Bool.or_eq_false_iff.1 (Bool.or_eq_false_iff.1 hc3).1).1)
    refine W_skip (w1 ((yM ?_)))
    refine yR (ov_rem_pos rfl rfl rfl ya ya) ?_
    refine yA_ ?_
    refine RO_nil (W_seq (w1 ((yR (ov_fieldAddr rfl rfl fa31_0 rfl) ?_))))
    refine yR (ov_load rfl rfl ye ⟨trivial, yn⟩ rfl rfl tok5) ?_
    refine yR (ov_neq rfl rfl rfl) ?_
    refine yM ?_
    refine gM ?_
    refine yG (fun hg => OpX.v (ov_neq rfl (look_gv rfl (bq hg)) rfl)) ?_
    refine yG (fun hg => OpX.v (ov_move rfl (look_gv rfl (bq hg)))) ?_
    refine RO_g rfl rfl rfl rfl rfl yd (fun hg1 hg2 => OpX.v (ov_move rfl rfl)) ?_
    refine RO_g rfl rfl rfl rfl rfl yd (fun hg1 hg2 => OpX.v (ov_eql rfl (look_gv rfl (bq2 hg1 hg2)) rfl)) ?_
    refine RO_g rfl rfl rfl rfl rfl yd (fun hg1 hg2 => OpX.v (ov_move rfl (look_gv rfl (bq2 hg1 hg2)))) ?_
    refine RO_g rfl rfl rfl rfl rfl yd (fun hg1 hg2 => OpX.v (ov_move rfl rfl)) ?_
    refine RO_g rfl rfl rfl rfl rfl yd (fun hg1 hg2 => OpX.v (ov_neq rfl (look_gv rfl (bq2 hg1 hg2)) rfl)) ?_
    refine RO_g rfl rfl rfl rfl rfl yd (fun hg1 hg2 => OpX.v (ov_and rfl (look_gv rfl (bq2 hg1 hg2)) rfl rfl (fun h => bq2 (bq2 hg1 hg2) h))) ?_
    refine yG (fun hg => OpX.v (ov_or rfl (look_gv rfl (bq hg)) rfl rfl (fun h => bq2 (bq hg) h))) ?_
    refine yG (fun hg => OpX.v (ov_move rfl (look_gv rfl (bq hg)))) ?_
    refine RO_g rfl rfl rfl rfl rfl yd (fun hg1 hg2 => OpX.v (ov_move rfl rfl)) ?_
    refine RO_g rfl rfl rfl rfl rfl yd (fun hg1 hg2 => OpX.v (ov_eql rfl (look_gv rfl (bq2 hg1 hg2)) rfl)) ?_
    refine RO_g rfl rfl rfl rfl rfl yd (fun hg1 hg2 => OpX.v (ov_move rfl (look_gv rfl (bq2 hg1 hg2)))) ?_
    refine RO_g rfl rfl rfl rfl rfl yd (fun hg1 hg2 => OpX.v (ov_move rfl rfl)) ?_
    refine RO_g rfl rfl rfl rfl rfl yd (fun hg1 hg2 => OpX.v (ov_neq rfl (look_gv rfl (bq2 hg1 hg2)) rfl)) ?_
    refine RO_g rfl rfl rfl rfl rfl yd (fun hg1 hg2 => OpX.v (ov_and rfl (look_gv rfl (bq2 hg1 hg2)) rfl rfl (fun h => bq2 (bq2 hg1 hg2) h))) ?_
    refine yG (fun hg => OpX.v (ov_or rfl (look_gv rfl (bq hg)) rfl rfl (fun h => bq2 (bq hg) h))) ?_
    refine yR (ov_and rfl rfl rfl rfl (fun h => bq h)) ?_
    refine RO_nil (W_cond rfl (fun hc4 => ?_) (fun hc4 => ?_))
    ·
     refine w1 ((yA_ ?_))
     refine RO_nil (W_ret ⟨trivial, yb, (ResV_tmp1 rfl rfl ?_)⟩)
     exact xciy
    ·
     refine W_skip (W_seq (w1 ((yM ?_))))
     refine yR (ov_eql rfl rfl rfl) ?_
     refine RO_nil (W_cond rfl (fun hc5 => ?_) (fun hc5 => ?_))
     ·
      refine w1 ((yM ?_))
      refine yM ?_
      refine yR (ov_gtr rfl rfl rfl) ?_
      refine yA_ ?_
      refine RO_nil (W_ret ⟨trivial, yb, (ResV_tmp1 rfl rfl ?_)⟩)
      exact xciy
     ·
      refine W_skip (w1 ((yM ?_)))
      refine yM ?_
      refine yR (ov_lss rfl rfl rfl) ?_
      refine yA_ ?_
      refine RO_nil (W_ret ⟨trivial, yb, (ResV_tmp1 rfl rfl ?_)⟩)
      exact xciy

theorem c_ref12_Passing (p : Pos) (hp : POK p) (M : List Fact) (ht : tu p ≤ 1) (hg : -1 ≤ pg p ∧ pg p ≤ 63) : Pure Tryz.prog 41 [enc posT p] M (.bool (passC p)) := by
 obtain ⟨hb, hpw, hvr, htu, hpg, hvr0, htu0⟩ := hp.head
 have ht2 := ht
 simp only [tu] at ht2
 have hg0 := hg
 simp only [pg] at hg0
 have hrk := rankK_val p
 have hukv := upK_val p
 refine pure_of_W (n := 61) Tryz.func41 rfl rfl yn ?_
 refine w2 (fun w0 => ?_)
 refine LO_l rfl (by decide : 1 < 61) (ol_box (t := posT) rfl rfl rfl yf (fun b1 => ?_))
 refine zA ?_
 refine LO_nil (w1 ((yR (ov_fieldAddr rfl rfl fa31_6 rfl) ?_)))
 refine yR (ov_load rfl rfl ye ⟨trivial, yn⟩ rfl rfl tok26) ?_
 refine yR (ov_convn rfl rfl Tryz.underlying26 Tryz.underlying3 ya) ?_
 refine yA_ ?_
 refine RO_nil (W_seq (w1 ((yM ?_))))
 refine yR (ov_eql rfl rfl rfl) ?_
 refine RO_nil (W_cond rfl (fun hc1 => ?_) (fun hc1 => ?_))
 ·
  refine w1 ((yA_ ?_))
  refine RO_nil (W_ret ⟨trivial, yb, (ResV_tmp1 rfl rfl ?_)⟩)
  exact xcjy
 ·
  have hg1 : ¬ pg p = -1 := of_decide_eq_false hc1
  have hg2 := hg1
  simp only [pg] at hg2
  refine W_skip (w1 ((yA_ ?_)))
  refine yA_ ?_
  refine RO_nil (W_cut [(1, ptrv b1 posT []), (3, .int .i64 (pg p)), (4, .int .i64 (rankK p)), (5, .int .i64 (upK p))] (.box b1 31 posT p :: M) ?_ ?_)
  ·
   refine w1 ((yR (ov_fieldAddr rfl rfl fa31_4 rfl) ?_))
   refine yR (ov_load rfl rfl ye ⟨trivial, yn⟩ rfl rfl tok5) ?_
   refine yR (ov_eql rfl rfl rfl) ?_
   refine RO_nil (W_cond rfl (fun hc2 => ?_) (fun hc2 => ?_))
   ·
    try simp only [yS] at hc2
    refine w1 ((yA_ ?_))
    refine RO_nil (W_reg (yA_ ?_))
    refine RO_nil ?_
    exact ⟨⟨rfl, rfl, congrArg some (val_int (by unfold rankK; first | exact (if_pos hc2).symm | exact (if_neg hc2).symm)), congrArg some (val_int (by unfold upK; first | exact (if_pos hc2).symm | exact (if_neg hc2).symm)), trivial⟩, yb⟩
   ·
    try simp only [yS] at hc2
    refine W_skip ?_
    exact ⟨⟨rfl, rfl, congrArg some (val_int (by unfold rankK; first | exact (if_pos hc2).symm | exact (if_neg hc2).symm)), congrArg some (val_int (by unfold upK; first | exact (if_pos hc2).symm | exact (if_neg hc2).symm)), trivial⟩, yb⟩
  ·
   refine W_seq (w1 ((yM ?_)))
   refine yR (ov_quo_pos rfl rfl rfl ya ya ya) ?_
   refine yM ?_
   refine yR (ov_neq rfl rfl rfl) ?_
   refine yM ?_
   refine gM ?_
   refine yG (fun hg => OpX.v (ov_fieldAddr rfl rfl fa31_1 rfl)) ?_
   refine yG (fun hg => OpX.v (ov_indexAddr rfl (look_gv rfl (bq hg)) (look_gv rfl (bq hg)) Tryz.underlying22 rfl Tryz.sizeOf5 ya ya)) ?_
   refine yG (fun hg => OpX.v (ov_load rfl (look_gv rfl (bq hg)) ye ⟨⟨trivial, yn⟩, (tn ya ya)⟩ rfl rfl tok5)) ?_
   refine yG (fun hg => OpX.v (ov_neq rfl (look_gv rfl (bq hg)) rfl)) ?_
   refine yR (ov_or rfl rfl rfl rfl (fun h => bq h)) ?_
   refine yM ?_
   refine gM ?_
   refine gM ?_
   refine RO_g1 rfl rfl rfl rfl rfl yd (fun hg => by have hgx := hg; (try simp only [yS] at hgx); exact OpX.v (ov_add rfl (look_gv rfl (bq hg)) (look_gv rfl (bq hg)) ya)) ?_
   refine yG (fun hg => OpX.v (ov_fieldAddr rfl rfl fa31_1 rfl)) ?_
   refine RO_g1 rfl rfl rfl rfl rfl yd (fun hg => by have hgx := hg; (try simp only [yS] at hgx); exact OpX.v (ov_indexAddr rfl (look_gv rfl (bq hg)) (look_gv rfl (bq hg)) Tryz.underlying22 rfl Tryz.sizeOf5 ya ya)) ?_
   refine RO_g1 rfl rfl rfl rfl rfl yd (fun hg => by have hgx := hg; (try simp only [yS] at hgx); exact OpX.v (ov_load rfl (look_gv rfl (bq hg)) ye ⟨⟨trivial, yn⟩, (tn ya ya)⟩ rfl rfl tok5)) ?_
   refine yG (fun hg => OpX.v (ov_neq rfl (look_gv rfl (bq hg)) rfl)) ?_
   refine yR (ov_or rfl rfl rfl rfl (fun h => bq h)) ?_
   refine yM ?_
   refine yG (fun hg => OpX.v (ov_load rfl rfl ye trivial rfl rfl tok31)) ?_
   refine gM ?_
   refine gM ?_
   refine RO_g1 rfl rfl rfl rfl rfl yd (fun hg => by have hgx := hg; (try simp only [yS] at hgx); exact OpX.v (ov_sub rfl (look_gv rfl (bq hg)) (look_gv rfl (bq hg)) ya)) ?_
   refine yG (fun hg => OpX.v (ov_fieldAddr rfl rfl fa31_4 rfl)) ?_
   refine yG (fun hg => OpX.v (ov_load rfl (look_gv rfl (bq hg)) ye ⟨trivial, yn⟩ rfl rfl tok5)) ?_
   refine yG (fun hg => OpX.v (ov_sub rfl rfl (look_gv rfl (bq hg)) ya)) ?_
   refine RO_g1 rfl rfl rfl rfl rfl yd (fun hg => by have hgx := hg; (try simp only [yS] at hgx); exact yV rfl rfl (looks_cons (look_gv rfl (bq hg)) (looks_cons (look_gv rfl (bq hg)) (looks_cons (look_gv rfl (bq hg)) (looks_cons rfl looks_nil)))) Tryz.call89 (c_ref08_Is p hp _ (1 - tu p) 1 _ yo yo)) ?_
   refine yG (fun hg => OpX.v (ov_not rfl (look_gv rfl (bq hg)))) ?_
   refine yR (ov_or rfl rfl rfl rfl (fun h => bq h)) ?_
   refine RO_nil (W_cond rfl (fun hc3 => ?_) (fun hc3 => ?_))
   ·
    refine w1 ((yA_ ?_))
    refine RO_nil (W_ret ⟨trivial, yb, (ResV_tmp1 rfl rfl ?_)⟩)
    exact xcjy
   ·
    refine W_skip (W_seq (w1 ((yA_ ?_))))
    refine RO_nil (W_block (W_loop (σ := Nat) (fun i => i ≤ 64 ∧ okTo (psF p) i = true) (fun i => [(1, ptrv b1 posT []), (3, .int .i64 (pg p)), (6, .int .i64 (i : Int))]) (fun i => .box b1 31 posT _ :: M) (fun i => 64 - i) (0) ⟨by omega, rfl⟩ ⟨rfl, rfl, rfl, trivial⟩ yb ?_))
    rintro i ⟨hI, hN⟩
    refine W_seq (w1 ((yM ?_)))
    refine yR (ov_lss rfl rfl rfl) ?_
    refine RO_nil (W_cond rfl (fun hc4 => ?_) (fun hc4 => ?_))
    ·
     try simp only [yS] at hc4
     refine W_skip (W_seq (W_block (w1 ((yR (ov_load rfl rfl ye trivial rfl rfl tok31) ?_)))))
     refine yM ?_
     refine yR (ov_fieldAddr rfl rfl fa31_4 rfl) ?_
     refine yR (ov_load rfl rfl ye ⟨trivial, yn⟩ rfl rfl tok5) ?_
     refine yP (yV rfl rfl rfl Tryz.call89 (c_ref08_Is p hp (i : Int) (tu p) 1 _ yo yo)) ?_
     refine yM ?_
     refine yG (fun hg => OpX.v (ov_load rfl rfl ye trivial rfl rfl tok31)) ?_
     refine gM ?_
     refine gM ?_
     refine yG (fun hg => yV rfl rfl (looks_cons (look_gv rfl (bq hg)) (looks_cons (look_gv rfl (bq hg)) (looks_cons (look_gv rfl (bq hg)) looks_nil))) Tryz.call90 (c_ref08_Hits p hp (i : Int) (pg p) _ yo yo yo yo)) ?_
     refine yR (ov_and rfl rfl rfl rfl (fun h => bq h)) ?_
     refine RO_nil (W_cond rfl (fun hc5 => ?_) (fun hc5 => ?_))
     ·
      refine w1 ((yA_ ?_))
      refine RO_nil (W_ret ⟨trivial, yb, (ResV_tmp1 rfl rfl ?_)⟩)
      exact xcjy
     ·
      refine W_skip (W_reg (yM ?_))
      refine yR (ov_add rfl rfl rfl ya) ?_
      refine yA_ ?_
      refine RO_nil ?_
      exact ⟨i + 1, yo, ⟨by omega, okTo_next hN hc5⟩, ⟨rfl, rfl, rfl, trivial⟩, yb⟩
    ·
     try simp only [yS] at hc4
     refine W_exit (w1 ((yA_ ?_)))
     refine RO_nil (W_ret ⟨trivial, yb, (ResV_tmp1 rfl rfl ?_)⟩)
     exact xcjy

theorem c_ref12_check (p : Pos) (hp : POK p) (M : List Fact) (ht : tu p ≤ 1) : Pure Tryz.prog 42 [enc posT p] M (.bool (chkC p)) := by
 obtain ⟨hb, hpw, hvr, htu, hpg, hvr0, htu0⟩ := hp.head
 have ht2 := ht
 simp only [tu] at ht2
 refine pure_of_W (n := 34) Tryz.func42 rfl rfl yn ?_
 refine w2 (fun w0 => ?_)
 refine LO_l rfl (by decide : 1 < 34) (ol_box (t := posT) rfl rfl rfl yf (fun b1 => ?_))
 refine zA ?_
 refine LO_nil (W_seq (w1 ((yR (ov_fieldAddr rfl rfl fa31_0 rfl) ?_))))
 refine yR (ov_load rfl rfl ye ⟨trivial, yn⟩ rfl rfl tok5) ?_
 refine yR (ov_eql rfl rfl rfl) ?_
 refine RO_nil (W_cond rfl (fun hc1 => ?_) (fun hc1 => ?_))
 ·
  refine w1 ((yR (ov_load rfl rfl ye trivial rfl rfl tok31) ?_))
  refine yP (yV rfl rfl rfl Tryz.call58 (c_ref08_Check p hp 0 _ yo yo)) ?_
  refine yR (ov_not rfl rfl) ?_
  refine yM ?_
  refine yG (fun hg => OpX.v (ov_load rfl rfl ye trivial rfl rfl tok31)) ?_
  refine yG (fun hg => yV rfl rfl (looks_cons (look_gv rfl (bq hg)) (looks_cons rfl looks_nil)) Tryz.call58 (c_ref08_Check p hp 1 _ yo yo)) ?_
  refine yG (fun hg => OpX.v (ov_not rfl (look_gv rfl (bq hg)))) ?_
  refine yR (ov_and rfl rfl rfl rfl (fun h => bq h)) ?_
  refine yA_ ?_
  refine RO_nil (W_ret ⟨trivial, yb, (ResV_tmp1 rfl rfl ?_)⟩)
  first | exact val_bool (show chkC p = _ from if_pos hc1).symm | exact val_bool (show chkC p = _ from if_neg (Bool.eq_false_iff.1 hc1)).symm
 ·
  refine W_skip (w1 ((yR (ov_fieldAddr rfl rfl fa31_0 rfl) ?_)))
  refine yR (ov_load rfl rfl ye ⟨trivial, yn⟩ rfl rfl tok5) ?_
  refine yR (ov_eql rfl rfl rfl) ?_
  refine yM ?_
  refine yG (fun hg => OpX.v (ov_load rfl rfl ye trivial rfl rfl tok31)) ?_
  refine yG (fun hg => OpX.v (ov_fieldAddr rfl rfl fa31_4 rfl)) ?_
  refine yG (fun hg => OpX.v (ov_load rfl (look_gv rfl (bq hg)) ye ⟨trivial, yn⟩ rfl rfl tok5)) ?_
  refine yG (fun hg => yV rfl rfl (looks_cons (look_gv rfl (bq hg)) (looks_cons (look_gv rfl (bq hg)) (looks_cons rfl looks_nil))) Tryz.call85 (c_ref12_count p hp (tu p) 6 _)) ?_
  refine yG (fun hg => OpX.v (ov_eql rfl (look_gv rfl (bq hg)) rfl)) ?_
  refine yR (ov_and rfl rfl rfl rfl (fun h => bq h)) ?_
  refine yA_ ?_
  refine RO_nil (w1 ((yM ?_)))
  refine yM ?_
  refine yG (fun hg => OpX.v (ov_load rfl rfl ye trivial rfl rfl tok31)) ?_
  refine yG (fun hg => OpX.v (ov_fieldAddr rfl rfl fa31_4 rfl)) ?_
  refine yG (fun hg => OpX.v (ov_load rfl (look_gv rfl (bq hg)) ye ⟨trivial, yn⟩ rfl rfl tok5)) ?_
  refine yG (fun hg => OpX.v (ov_sub rfl rfl (look_gv rfl (bq hg)) ya)) ?_
  refine yG (fun hg => yV rfl rfl (looks_cons (look_gv rfl (bq hg)) (looks_cons (look_gv rfl (bq hg)) looks_nil)) Tryz.call58 (c_ref08_Check p hp (1 - tu p) _ yo yo)) ?_
  refine yG (fun hg => OpX.v (ov_not rfl (look_gv rfl (bq hg)))) ?_
  refine yR (ov_or rfl rfl rfl rfl (fun h => bq h)) ?_
  refine yA_ ?_
  refine RO_nil (W_ret ⟨trivial, yb, (ResV_tmp1 rfl rfl ?_)⟩)
  first | exact val_bool (show chkC p = _ from if_pos hc1).symm | exact val_bool (show chkC p = _ from if_neg (Bool.eq_false_iff.1 hc1)).symm
end Go.Kw
set_option linter.unusedVariables false
namespace Go.Kw
open Go.Proofs
theorem tok9 : TyOK Tryz.prog 9 .str := ⟨Tryz.isAgg9, Tryz.sizeOf9, Tryz.zeroValue9⟩
theorem tok94 : TyOK Tryz.prog 94 (.ar 4 .str) := ⟨Tryz.isAgg94, Tryz.sizeOf94, Tryz.zeroValue94⟩
theorem tok95 : TyOK Tryz.prog 95 (.ar 9 .str) := ⟨Tryz.isAgg95, Tryz.sizeOf95, Tryz.zeroValue95⟩
theorem bl94 : BuildOKa Tryz.prog 94 4 .str := ⟨_, _, _, rfl, rfl, Tryz.underlying94, rfl, rfl⟩
theorem bl95 : BuildOKa Tryz.prog 95 9 .str := ⟨_, _, _, rfl, rfl, Tryz.underlying95, rfl, rfl⟩
theorem ap50 : AppOK Tryz.prog 50 34 i64 8 := ⟨⟨_, Tryz.underlying50, rfl, rfl, rfl, rfl⟩, by decide⟩
theorem fa58_1 : FA Tryz.prog 58 1 1 := fun a w => by simp [Instr.fieldAt, Tryz.runUnderlying58, Instr.sureAddr, fieldPlace, Tryz.sizeOf5]

def clkB (p : Pos) : Bool := ((decide (hf p < 0) || decide (10000 < hf p)) || decide (fl p < 1)) || decide (10000 < fl p)
def rooksB (p : Pos) : Bool := ((!rightC p 0 0 || !rightC p 0 1) || !rightC p 1 0) || !rightC p 1 1
def eL1 (p : Pos) : List (El i64) := if clkB p = true then [(125 : Int)] else []
def eL2 (p : Pos) : List (El i64) := if (!kingsR p) = true then eL1 p ++ [(120 : Int)] else eL1 p
def eL3 (p : Pos) : List (El i64) := if (!pawnsR p) = true then eL2 p ++ [(121 : Int)] else eL2 p
def eL4 (p : Pos) : List (El i64) := if (!pocketsR p) = true then eL3 p ++ [(122 : Int)] else eL3 p
def eL5 (p : Pos) : List (El i64) := if rooksB p = true then eL4 p ++ [(123 : Int)] else eL4 p
def eL6 (p : Pos) : List (El i64) := if (!passC p) = true then eL5 p ++ [(124 : Int)] else eL5 p
def eL7 (p : Pos) : List (El i64) := if (!chkC p) = true then eL6 p ++ [(126 : Int)] else eL6 p
def allE (p : Pos) : List (El i64) := if (!plainR p) = true then [(2 : Int)] else eL7 p
theorem eL_le (p : Pos) : (eL1 p).length ≤ 1 ∧ (eL2 p).length ≤ 2 ∧ (eL3 p).length ≤ 3 ∧ (eL4 p).length ≤ 4 ∧ (eL5 p).length ≤ 5 ∧ (eL6 p).length ≤ 6 ∧ (eL7 p).length ≤ 7 := by
  have key : ∀ (b : Bool) (L : List (El i64)) (e : Int) (n : Nat), L.length ≤ n → (if b = true then L ++ [(e : El i64)] else L).length ≤ n + 1 := fun b L e n h => by
    cases b
    · rw [if_neg (by simp)]; omega
    · rw [if_pos rfl]
      have : (List.append L [(e : El i64)]).length = L.length + 1 := by simp
      show (List.append L [(e : El i64)]).length ≤ n + 1
      omega
  have h1 : (eL1 p).length ≤ 1 := by unfold eL1; split <;> simp
  have h2 := key (!kingsR p) (eL1 p) 120 1 h1
  have h3 := key (!pawnsR p) (eL2 p) 121 2 h2
  have h4 := key (!pocketsR p) (eL3 p) 122 3 h3
  have h5 := key (rooksB p) (eL4 p) 123 4 h4
  have h6 := key (!passC p) (eL5 p) 124 5 h5
  exact ⟨h1, h2, h3, h4, h5, h6, key (!chkC p) (eL6 p) 126 6 h6⟩
theorem eL_len (p : Pos) (k : Nat) : (eL1 p).length ≤ 1000 ∧ (eL2 p).length ≤ 1000 ∧ (eL3 p).length ≤ 1000 ∧ (eL4 p).length ≤ 1000 ∧ (eL5 p).length ≤ 1000 ∧ (eL6 p).length ≤ 1000 ∧ (eL7 p).length ≤ 1000 := by
  have := eL_le p; omega
theorem plain_of {p : Pos} (h : (!plainR p) = false) : (vr p ≤ 8 ∧ tu p ≤ 1) ∧ (-1 ≤ pg p ∧ pg p ≤ 63) ∧ ∀ c j : Nat, c < 2 → j < 2 → -1 ≤ rkAt p (c : Int) (j : Int) ∧ rkAt p (c : Int) (j : Int) ≤ 7 := by
  have h : plainR p = true := by simpa using h
  unfold plainR at h
  cases h1 : plH1 p with
  | true => rw [h1, if_pos rfl] at h; cases h
  | false =>
    rw [h1, if_neg (by simp), Bool.and_eq_true] at h
    unfold plH1 at h1
    simp only [Bool.or_eq_false_iff, decide_eq_false_iff_not] at h1
    refine ⟨⟨by omega, by omega⟩, ⟨by omega, by omega⟩, fun c j hc hj => ?_⟩
    have hC : okTo (plC p) 2 = true := h.2
    have hc' : plC p c = false := by
      cases e : plC p c with
      | false => rfl
      | true => rw [okTo_no e hc] at hC; cases hC
    have hk : okTo (plK p c) 2 = true := by
      unfold plC at hc'
      have := (Bool.or_eq_false_iff.1 hc').1
      simpa using this
    have hj' : plK p c j = false := by
      cases e : plK p c j with
      | false => rfl
      | true => rw [okTo_no e hj] at hk; cases hk
    unfold plK at hj'
    simp only [Bool.or_eq_false_iff, decide_eq_false_iff_not] at hj'
    omega
def mateS : ByteArray := ⟨#[49, 45, 48, 32, 109, 97, 116, 101]⟩
def stT : List (El .str) := [(⟨#[42]⟩ : ByteArray), (⟨#[49, 45, 48, 32]⟩ : ByteArray), (⟨#[48, 45, 49, 32]⟩ : ByteArray), (⟨#[49, 47, 50, 32]⟩ : ByteArray)]
theorem stT_wf : wf (.ar 4 .str) stT := ⟨rfl, fun _ _ => trivial⟩
def whT : List (El .str) := [(⟨#[63]⟩ : ByteArray), (⟨#[109, 97, 116, 101]⟩ : ByteArray), (⟨#[115, 116, 97, 108, 101, 109, 97, 116, 101]⟩ : ByteArray), (⟨#[109, 97, 116, 101, 114, 105, 97, 108]⟩ : ByteArray), (⟨#[99, 108, 111, 99, 107]⟩ : ByteArray), (⟨#[114, 101, 112, 101, 116, 105, 116, 105, 111, 110]⟩ : ByteArray), (⟨#[107, 105, 110, 103]⟩ : ByteArray), (⟨#[99, 104, 101, 99, 107, 115]⟩ : ByteArray), (⟨#[108, 97, 115, 116]⟩ : ByteArray)]
theorem whT_wf : wf (.ar 9 .str) whT := ⟨rfl, fun _ _ => trivial⟩

theorem c_ref12_All (p : Pos) (hp : POK p) (M : List Fact) : Con Tryz.prog 16 [enc posT p] M (fun u M' => M' = .row u 34 i64 (allE p) :: M) := by
 obtain ⟨hb, hpw, hvr, htu, hpg, hvr0, htu0⟩ := hp.head
 refine con_of_W (n := 83) Tryz.func16 rfl rfl yn ?_
 refine w2 (fun w0 => ?_)
 refine LO_l rfl (by decide : 1 < 83) (ol_box (t := posT) rfl rfl rfl yf (fun b1 => ?_))
 refine zA ?_
 refine LO_nil (W_seq (W_row 34 i64 ?_))
 refine W_reg (yA_ ?_)
 refine RO_nil (W_seq (w1 ((yR (ov_load rfl rfl ye trivial rfl rfl tok31) ?_))))
 refine yP (yV rfl rfl rfl Tryz.call36 (by apply c_ref12_plain <;> exact yz)) ?_
 refine yR (ov_not rfl rfl) ?_
 refine RO_nil (W_cond rfl (fun hc1 => ?_) (fun hc1 => ?_))
 ·
  refine w2 (fun w0 => ?_)
  refine zM ?_
  refine LO_l rfl (by decide : 8 < 83) (ol_buildSlice (t := i64) (xs := [_]) rfl rfl rfl Tryz.underlying50 tok34 xaey yd yd yd (fun v1 => ?_))
  refine LO_l rfl (by decide : 9 < 83) (ol_ap1 (t := i64) rfl rfl rfl xaby ap50 xafy xafy (fun v2 => ?_))
  refine zA ?_
  refine LO_nil (W_ret ⟨trivial, _, .row _ 34 i64 (allE p) :: M, (ResV_tmp1 rfl rfl rfl), ?_, rfl⟩)
  first | (rw [show allE p = _ from if_pos hc1]; exact yb) | (rw [show allE p = _ from if_neg (Bool.eq_false_iff.1 hc1)]; exact yb)
 ·
  have hpl := plain_of hc1
  have htu1 : tu p ≤ 1 := hpl.1.2
  refine W_skip (W_cutE (σ := Value) (fun s => True) (fun s => [(1, ptrv b1 posT []), (3, s)]) (fun s => .row s 34 i64 (eL1 p) :: .box b1 31 posT p :: M) ?_ (fun s hs => ?_))
  ·
   refine w1 ((yR (ov_fieldAddr rfl rfl fa31_8 rfl) ?_))
   refine yR (ov_load rfl rfl ye ⟨trivial, yn⟩ rfl rfl tok3) ?_
   refine yR (ov_lss rfl rfl rfl) ?_
   refine yM ?_
   refine yG (fun hg => OpX.v (ov_fieldAddr rfl rfl fa31_8 rfl)) ?_
   refine yG (fun hg => OpX.v (ov_load rfl (look_gv rfl (bq hg)) ye ⟨trivial, yn⟩ rfl rfl tok3)) ?_
   refine yG (fun hg => OpX.v (ov_gtr rfl (look_gv rfl (bq hg)) rfl)) ?_
   refine yR (ov_or rfl rfl rfl rfl (fun h => bq h)) ?_
   refine yM ?_
   refine yG (fun hg => OpX.v (ov_fieldAddr rfl rfl fa31_9 rfl)) ?_
   refine yG (fun hg => OpX.v (ov_load rfl (look_gv rfl (bq hg)) ye ⟨trivial, yn⟩ rfl rfl tok3)) ?_
   refine yG (fun hg => OpX.v (ov_lss rfl (look_gv rfl (bq hg)) rfl)) ?_
   refine yR (ov_or rfl rfl rfl rfl (fun h => bq h)) ?_
   refine yM ?_
   refine yG (fun hg => OpX.v (ov_fieldAddr rfl rfl fa31_9 rfl)) ?_
   refine yG (fun hg => OpX.v (ov_load rfl (look_gv rfl (bq hg)) ye ⟨trivial, yn⟩ rfl rfl tok3)) ?_
   refine yG (fun hg => OpX.v (ov_gtr rfl (look_gv rfl (bq hg)) rfl)) ?_
   refine yR (ov_or rfl rfl rfl rfl (fun h => bq h)) ?_
   refine RO_nil (W_cond rfl (fun hc2 => ?_) (fun hc2 => ?_))
   ·
    refine W_regl (fun w0 => ?_)
    refine zM ?_
    refine LO_l rfl (by decide : 29 < 83) (ol_buildSlice (t := i64) (xs := [_]) rfl rfl rfl Tryz.underlying50 tok34 xaey yd yd yd (fun v3 => ?_))
    refine LO_l rfl (by decide : 30 < 83) (ol_ap1 (t := i64) rfl rfl rfl xaby ap50 xafy xafy (fun v4 => ?_))
    refine zA ?_
    refine LO_nil ?_
    exact ⟨_, trivial, ⟨rfl, rfl, trivial⟩, (by first | (rw [show eL1 p = _ from if_pos hc2]; exact yb) | (rw [show eL1 p = _ from if_neg (Bool.eq_false_iff.1 hc2)]; exact yb))⟩
   ·
    refine W_skip ?_
    exact ⟨_, trivial, ⟨rfl, rfl, trivial⟩, (by first | (rw [show eL1 p = _ from if_pos hc2]; exact yb) | (rw [show eL1 p = _ from if_neg (Bool.eq_false_iff.1 hc2)]; exact yb))⟩
  ·
   have hel := eL_len p 1
   refine W_cutE (σ := Value) (fun s => True) (fun s => [(1, ptrv b1 posT []), (3, s)]) (fun s => .row s 34 i64 (eL2 p) :: .box b1 31 posT p :: M) ?_ (fun s hs => ?_)
   ·
    refine w1 ((yR (ov_load rfl rfl ye trivial rfl rfl tok31) ?_))
    refine yP (yV rfl rfl rfl Tryz.call37 (by apply c_ref12_kings <;> exact yz)) ?_
    refine yR (ov_not rfl rfl) ?_
    refine RO_nil (W_cond rfl (fun hc3 => ?_) (fun hc3 => ?_))
    ·
     refine W_regl (fun w0 => ?_)
     refine zM ?_
     refine LO_l rfl (by decide : 35 < 83) (ol_buildSlice (t := i64) (xs := [_]) rfl rfl rfl Tryz.underlying50 tok34 xaey yd yd yd (fun v5 => ?_))
     refine LO_l rfl (by decide : 36 < 83) (ol_ap1 (t := i64) rfl rfl rfl xaby ap50 xafy xafy (fun v6 => ?_))
     refine zA ?_
     refine LO_nil ?_
     exact ⟨_, trivial, ⟨rfl, rfl, trivial⟩, (by first | (rw [show eL2 p = _ from if_pos hc3]; exact yb) | (rw [show eL2 p = _ from if_neg (Bool.eq_false_iff.1 hc3)]; exact yb))⟩
    ·
     refine W_skip ?_
     exact ⟨_, trivial, ⟨rfl, rfl, trivial⟩, (by first | (rw [show eL2 p = _ from if_pos hc3]; exact yb) | (rw [show eL2 p = _ from if_neg (Bool.eq_false_iff.1 hc3)]; exact yb))⟩
   ·
    have hel := eL_len p 2
    refine W_cutE (σ := Value) (fun s => True) (fun s => [(1, ptrv b1 posT []), (3, s)]) (fun s => .row s 34 i64 (eL3 p) :: .box b1 31 posT p :: M) ?_ (fun s hs => ?_)
    ·
     refine w1 ((yR (ov_load rfl rfl ye trivial rfl rfl tok31) ?_))
     refine yP (yV rfl rfl rfl Tryz.call38 (by apply c_ref12_pawns <;> exact yz)) ?_
     refine yR (ov_not rfl rfl) ?_
     refine RO_nil (W_cond rfl (fun hc4 => ?_) (fun hc4 => ?_))
     ·
      refine W_regl (fun w0 => ?_)
      refine zM ?_
      refine LO_l rfl (by decide : 41 < 83) (ol_buildSlice (t := i64) (xs := [_]) rfl rfl rfl Tryz.underlying50 tok34 xaey yd yd yd (fun v7 => ?_))
      refine LO_l rfl (by decide : 42 < 83) (ol_ap1 (t := i64) rfl rfl rfl xaby ap50 xafy xafy (fun v8 => ?_))
      refine zA ?_
      refine LO_nil ?_
      exact ⟨_, trivial, ⟨rfl, rfl, trivial⟩, (by first | (rw [show eL3 p = _ from if_pos hc4]; exact yb) | (rw [show eL3 p = _ from if_neg (Bool.eq_false_iff.1 hc4)]; exact yb))⟩
     ·
      refine W_skip ?_
      exact ⟨_, trivial, ⟨rfl, rfl, trivial⟩, (by first | (rw [show eL3 p = _ from if_pos hc4]; exact yb) | (rw [show eL3 p = _ from if_neg (Bool.eq_false_iff.1 hc4)]; exact yb))⟩
    ·
     have hel := eL_len p 3
     refine W_cutE (σ := Value) (fun s => True) (fun s => [(1, ptrv b1 posT []), (3, s)]) (fun s => .row s 34 i64 (eL4 p) :: .box b1 31 posT p :: M) ?_ (fun s hs => ?_)
     ·
      refine w1 ((yR (ov_load rfl rfl ye trivial rfl rfl tok31) ?_))
      refine yP (yV rfl rfl rfl Tryz.call39 (by apply c_ref12_pockets <;> exact yz)) ?_
      refine yR (ov_not rfl rfl) ?_
      refine RO_nil (W_cond rfl (fun hc5 => ?_) (fun hc5 => ?_))
      ·
       refine W_regl (fun w0 => ?_)
       refine zM ?_
       refine LO_l rfl (by decide : 47 < 83) (ol_buildSlice (t := i64) (xs := [_]) rfl rfl rfl Tryz.underlying50 tok34 xaey yd yd yd (fun v9 => ?_))
       refine LO_l rfl (by decide : 48 < 83) (ol_ap1 (t := i64) rfl rfl rfl xaby ap50 xafy xafy (fun v10 => ?_))
       refine zA ?_
       refine LO_nil ?_
       exact ⟨_, trivial, ⟨rfl, rfl, trivial⟩, (by first | (rw [show eL4 p = _ from if_pos hc5]; exact yb) | (rw [show eL4 p = _ from if_neg (Bool.eq_false_iff.1 hc5)]; exact yb))⟩
      ·
       refine W_skip ?_
       exact ⟨_, trivial, ⟨rfl, rfl, trivial⟩, (by first | (rw [show eL4 p = _ from if_pos hc5]; exact yb) | (rw [show eL4 p = _ from if_neg (Bool.eq_false_iff.1 hc5)]; exact yb))⟩
     ·
      have hel := eL_len p 4
      refine W_cutE (σ := Value) (fun s => True) (fun s => [(1, ptrv b1 posT []), (3, s)]) (fun s => .row s 34 i64 (eL5 p) :: .box b1 31 posT p :: M) ?_ (fun s hs => ?_)
      ·
       refine w1 ((yR (ov_load rfl rfl ye trivial rfl rfl tok31) ?_))
       refine yP (yV rfl rfl rfl Tryz.call40 (c_ref12_Right p hp 0 0 _ yd yd yd yd (hpl.2.2 0 0 yd yd))) ?_
       refine yR (ov_not rfl rfl) ?_
       refine yM ?_
       refine yG (fun hg => OpX.v (ov_load rfl rfl ye trivial rfl rfl tok31)) ?_
       refine yG (fun hg => yV rfl rfl (looks_cons (look_gv rfl (bq hg)) (looks_cons rfl (looks_cons rfl looks_nil))) Tryz.call40 (c_ref12_Right p hp 0 1 _ yd yd yd yd (hpl.2.2 0 1 yd yd))) ?_
       refine yG (fun hg => OpX.v (ov_not rfl (look_gv rfl (bq hg)))) ?_
       refine yR (ov_or rfl rfl rfl rfl (fun h => bq h)) ?_
       refine yM ?_
       refine yG (fun hg => OpX.v (ov_load rfl rfl ye trivial rfl rfl tok31)) ?_
       refine yG (fun hg => yV rfl rfl (looks_cons (look_gv rfl (bq hg)) (looks_cons rfl (looks_cons rfl looks_nil))) Tryz.call40 (c_ref12_Right p hp 1 0 _ yd yd yd yd (hpl.2.2 1 0 yd yd))) ?_
       refine yG (fun hg => OpX.v (ov_not rfl (look_gv rfl (bq hg)))) ?_
       refine yR (ov_or rfl rfl rfl rfl (fun h => bq h)) ?_
       refine yM ?_
       refine yG (fun hg => OpX.v (ov_load rfl rfl ye trivial rfl rfl tok31)) ?_
       refine yG (fun hg => yV rfl rfl (looks_cons (look_gv rfl (bq hg)) (looks_cons rfl (looks_cons rfl looks_nil))) Tryz.call40 (c_ref12_Right p hp 1 1 _ yd yd yd yd (hpl.2.2 1 1 yd yd))) ?_
       refine yG (fun hg => OpX.v (ov_not rfl (look_gv rfl (bq hg)))) ?_
       refine yR (ov_or rfl rfl rfl rfl (fun h => bq h)) ?_
       refine RO_nil (W_cond rfl (fun hc6 => ?_) (fun hc6 => ?_))
       ·
        refine W_regl (fun w0 => ?_)
        refine zM ?_
        refine LO_l rfl (by decide : 68 < 83) (ol_buildSlice (t := i64) (xs := [_]) rfl rfl rfl Tryz.underlying50 tok34 xaey yd yd yd (fun v11 => ?_))
        refine LO_l rfl (by decide : 69 < 83) (ol_ap1 (t := i64) rfl rfl rfl xaby ap50 xafy xafy (fun v12 => ?_))
        refine zA ?_
        refine LO_nil ?_
        exact ⟨_, trivial, ⟨rfl, rfl, trivial⟩, (by first | (rw [show eL5 p = _ from if_pos hc6]; exact yb) | (rw [show eL5 p = _ from if_neg (Bool.eq_false_iff.1 hc6)]; exact yb))⟩
       ·
        refine W_skip ?_
        exact ⟨_, trivial, ⟨rfl, rfl, trivial⟩, (by first | (rw [show eL5 p = _ from if_pos hc6]; exact yb) | (rw [show eL5 p = _ from if_neg (Bool.eq_false_iff.1 hc6)]; exact yb))⟩
      ·
       have hel := eL_len p 5
       refine W_cutE (σ := Value) (fun s => True) (fun s => [(1, ptrv b1 posT []), (3, s)]) (fun s => .row s 34 i64 (eL6 p) :: .box b1 31 posT p :: M) ?_ (fun s hs => ?_)
       ·
        refine w1 ((yR (ov_load rfl rfl ye trivial rfl rfl tok31) ?_))
        refine yP (yV rfl rfl rfl Tryz.call41 (c_ref12_Passing p hp _ htu1 hpl.2.1)) ?_
        refine yR (ov_not rfl rfl) ?_
        refine RO_nil (W_cond rfl (fun hc7 => ?_) (fun hc7 => ?_))
        ·
         refine W_regl (fun w0 => ?_)
         refine zM ?_
         refine LO_l rfl (by decide : 74 < 83) (ol_buildSlice (t := i64) (xs := [_]) rfl rfl rfl Tryz.underlying50 tok34 xaey yd yd yd (fun v13 => ?_))
         refine LO_l rfl (by decide : 75 < 83) (ol_ap1 (t := i64) rfl rfl rfl xaby ap50 xafy xafy (fun v14 => ?_))
         refine zA ?_
         refine LO_nil ?_
         exact ⟨_, trivial, ⟨rfl, rfl, trivial⟩, (by first | (rw [show eL6 p = _ from if_pos hc7]; exact yb) | (rw [show eL6 p = _ from if_neg (Bool.eq_false_iff.1 hc7)]; exact yb))⟩
        ·
         refine W_skip ?_
         exact ⟨_, trivial, ⟨rfl, rfl, trivial⟩, (by first | (rw [show eL6 p = _ from if_pos hc7]; exact yb) | (rw [show eL6 p = _ from if_neg (Bool.eq_false_iff.1 hc7)]; exact yb))⟩
       ·
        have hel := eL_len p 6
        refine W_cutE (σ := Value) (fun s => True) (fun s => [(3, s)]) (fun s => .row s 34 i64 (eL7 p) :: .box b1 31 posT p :: M) ?_ (fun s hs => ?_)
        ·
         refine w1 ((yR (ov_load rfl rfl ye trivial rfl rfl tok31) ?_))
         refine yP (yV rfl rfl rfl Tryz.call42 (c_ref12_check p hp _ htu1)) ?_
         refine yR (ov_not rfl rfl) ?_
         refine RO_nil (W_cond rfl (fun hc8 => ?_) (fun hc8 => ?_))
         ·
          refine W_regl (fun w0 => ?_)
          refine zM ?_
          refine LO_l rfl (by decide : 80 < 83) (ol_buildSlice (t := i64) (xs := [_]) rfl rfl rfl Tryz.underlying50 tok34 xaey yd yd yd (fun v15 => ?_))
          refine LO_l rfl (by decide : 81 < 83) (ol_ap1 (t := i64) rfl rfl rfl xaby ap50 xafy xafy (fun v16 => ?_))
          refine zA ?_
          refine LO_nil ?_
          exact ⟨_, trivial, ⟨rfl, trivial⟩, (by first | (rw [show eL7 p = _ from if_pos hc8]; exact yb) | (rw [show eL7 p = _ from if_neg (Bool.eq_false_iff.1 hc8)]; exact yb))⟩
         ·
          refine W_skip ?_
          exact ⟨_, trivial, ⟨rfl, trivial⟩, (by first | (rw [show eL7 p = _ from if_pos hc8]; exact yb) | (rw [show eL7 p = _ from if_neg (Bool.eq_false_iff.1 hc8)]; exact yb))⟩
        ·
         have hel := eL_len p 7
         refine w1 ((yM ?_))
         refine yA_ ?_
         refine RO_nil (W_ret ⟨trivial, _, .row _ 34 i64 (allE p) :: M, (ResV_tmp1 rfl rfl rfl), ?_, rfl⟩)
         first | (rw [show allE p = _ from if_pos hc1]; exact yb) | (rw [show allE p = _ from if_neg (Bool.eq_false_iff.1 hc1)]; exact yb)

theorem c_outcome_Text (M : List Fact) : Pure Tryz.prog 31 [enc resT ((1 : Int), (1 : Int), ())] M (.string mateS) := by
 have hw1 := stT_wf
 have hw2 := whT_wf
 refine pure_of_W (n := 37) Tryz.func31 rfl rfl yn ?_
 refine w2 (fun w0 => ?_)
 refine LO_l rfl (by decide : 1 < 37) (ol_box (t := resT) rfl rfl rfl yf (fun b1 => ?_))
 refine zA ?_
 refine LO_nil (w2 (fun w0 => ?_))
 refine yL (ov_buildA (t := .str) (ds := [(0, _), (1, _), (2, _), (3, _)]) rfl rfl bl94 ⟨yn, yf, ⟨yn, yf, ⟨yn, yf, ⟨yn, yf, trivial⟩⟩⟩⟩ rfl) ?_
 refine LO_l rfl (by decide : 3 < 37) (ol_alloc (t := (.ar 4 .str)) rfl tok94 yf (fun b2 => ?_))
 refine LO_l rfl trivial (ol_sw0 rfl rfl rfl rfl yf tok94 ?_)
 refine LO_nil (w2 (fun w0 => ?_))
 refine yL (ov_buildA (t := .str) (ds := [(0, _), (1, _), (2, _), (3, _), (4, _), (5, _), (6, _), (7, _), (8, _)]) rfl rfl bl95 ⟨yn, yf, ⟨yn, yf, ⟨yn, yf, ⟨yn, yf, ⟨yn, yf, ⟨yn, yf, ⟨yn, yf, ⟨yn, yf, ⟨yn, yf, trivial⟩⟩⟩⟩⟩⟩⟩⟩⟩ rfl) ?_
 refine LO_l rfl (by decide : 4 < 37) (ol_alloc (t := (.ar 9 .str)) rfl tok95 yf (fun b3 => ?_))
 refine LO_l rfl trivial (ol_sw0 rfl rfl rfl rfl yf tok95 ?_)
 refine LO_nil (W_seq (W_block (w1 ((yR (ov_fieldAddr rfl rfl fa58_0 rfl) ?_)))))
 refine yR (ov_load rfl rfl ye ⟨trivial, yn⟩ rfl rfl tok5) ?_
 refine yR (ov_convn rfl rfl Tryz.underlying5 Tryz.underlying3 ya) ?_
 refine yR (ov_geq rfl rfl rfl) ?_
 refine yA_ ?_
 refine RO_nil (W_condf rfl ?_)
 refine w1 ((yR (ov_fieldAddr rfl rfl fa58_0 rfl) ?_))
 refine yR (ov_load rfl rfl ye ⟨trivial, yn⟩ rfl rfl tok5) ?_
 refine yR (ov_eql rfl rfl rfl) ?_
 refine yA_ ?_
 refine RO_nil (W_condf rfl ?_)
 refine w1 ((yR (ov_fieldAddr rfl rfl fa58_1 rfl) ?_))
 refine yR (ov_load rfl rfl ye ⟨trivial, yn⟩ rfl rfl tok5) ?_
 refine yR (ov_convn rfl rfl Tryz.underlying5 Tryz.underlying3 ya) ?_
 refine yR (ov_geq rfl rfl rfl) ?_
 refine yA_ ?_
 refine RO_nil (W_condf rfl ?_)
 refine W_skip (W_seq (W_regd mixed yk ?_))
 refine yR (ov_fieldAddr rfl rfl fa58_0 rfl) ?_
 refine yR (ov_load rfl rfl ye ⟨trivial, yn⟩ rfl rfl tok5) ?_
 refine yR (ov_indexAddr rfl rfl rfl Tryz.underlying94 rfl Tryz.sizeOf9 ya ya) ?_
 refine yR (ov_load rfl rfl ye ⟨trivial, (tn ya ya)⟩ rfl rfl tok9) ?_
 refine yR (ov_fieldAddr rfl rfl fa58_1 rfl) ?_
 refine yR (ov_load rfl rfl ye ⟨trivial, yn⟩ rfl rfl tok5) ?_
 refine yR (ov_indexAddr rfl rfl rfl Tryz.underlying95 rfl Tryz.sizeOf9 ya ya) ?_
 refine yR (ov_load rfl rfl ye ⟨trivial, (tn ya ya)⟩ rfl rfl tok9) ?_
 refine yR (ov_addS rfl rfl rfl yd) ?_
 refine yA_ ?_
 refine RO_nil (W_ret ⟨trivial, yb, (ResV_tmp1 rfl rfl ?_)⟩)
 rfl
end Go.Kw
set_option linter.unusedVariables false
namespace Go.Kw
/-! ### the second moves from the first position: twenty behind each of twenty -/
def sqN (b : List Int) (h : Int) : Pos := ((0 : Int), b, (0#64 : BitVec 64), ([[0, 0, 0, 0, 0, 0], [0, 0, 0, 0, 0, 0]] : List (List Int)), (1 : Int), ([[7, 0], [7, 0]] : List (List Int)), (-1 : Int), ([0, 0] : List Int), h, (1 : Int), ())
def sn0 : Pos := sqN [4, 0, 3, 5, 6, 3, 2, 4, 1, 1, 1, 1, 1, 1, 1, 1, 2, 0, 0, 0, 0, 0, 0, 0, 0, 0, 0, 0, 0, 0, 0, 0, 0, 0, 0, 0, 0, 0, 0, 0, 0, 0, 0, 0, 0, 0, 0, 0, 9, 9, 9, 9, 9, 9, 9, 9, 12, 10, 11, 13, 14, 11, 10, 12] 1
def sn1 : Pos := sqN [4, 0, 3, 5, 6, 3, 2, 4, 1, 1, 1, 1, 1, 1, 1, 1, 0, 0, 2, 0, 0, 0, 0, 0, 0, 0, 0, 0, 0, 0, 0, 0, 0, 0, 0, 0, 0, 0, 0, 0, 0, 0, 0, 0, 0, 0, 0, 0, 9, 9, 9, 9, 9, 9, 9, 9, 12, 10, 11, 13, 14, 11, 10, 12] 1
def sn2 : Pos := sqN [4, 2, 3, 5, 6, 3, 0, 4, 1, 1, 1, 1, 1, 1, 1, 1, 0, 0, 0, 0, 0, 2, 0, 0, 0, 0, 0, 0, 0, 0, 0, 0, 0, 0, 0, 0, 0, 0, 0, 0, 0, 0, 0, 0, 0, 0, 0, 0, 9, 9, 9, 9, 9, 9, 9, 9, 12, 10, 11, 13, 14, 11, 10, 12] 1
def sn3 : Pos := sqN [4, 2, 3, 5, 6, 3, 0, 4, 1, 1, 1, 1, 1, 1, 1, 1, 0, 0, 0, 0, 0, 0, 0, 2, 0, 0, 0, 0, 0, 0, 0, 0, 0, 0, 0, 0, 0, 0, 0, 0, 0, 0, 0, 0, 0, 0, 0, 0, 9, 9, 9, 9, 9, 9, 9, 9, 12, 10, 11, 13, 14, 11, 10, 12] 1
def sn4 : Pos := sqN [4, 2, 3, 5, 6, 3, 2, 4, 0, 1, 1, 1, 1, 1, 1, 1, 1, 0, 0, 0, 0, 0, 0, 0, 0, 0, 0, 0, 0, 0, 0, 0, 0, 0, 0, 0, 0, 0, 0, 0, 0, 0, 0, 0, 0, 0, 0, 0, 9, 9, 9, 9, 9, 9, 9, 9, 12, 10, 11, 13, 14, 11, 10, 12] 0
def sn5 : Pos := sqN [4, 2, 3, 5, 6, 3, 2, 4, 0, 1, 1, 1, 1, 1, 1, 1, 0, 0, 0, 0, 0, 0, 0, 0, 1, 0, 0, 0, 0, 0, 0, 0, 0, 0, 0, 0, 0, 0, 0, 0, 0, 0, 0, 0, 0, 0, 0, 0, 9, 9, 9, 9, 9, 9, 9, 9, 12, 10, 11, 13, 14, 11, 10, 12] 0
def sn6 : Pos := sqN [4, 2, 3, 5, 6, 3, 2, 4, 1, 0, 1, 1, 1, 1, 1, 1, 0, 1, 0, 0, 0, 0, 0, 0, 0, 0, 0, 0, 0, 0, 0, 0, 0, 0, 0, 0, 0, 0, 0, 0, 0, 0, 0, 0, 0, 0, 0, 0, 9, 9, 9, 9, 9, 9, 9, 9, 12, 10, 11, 13, 14, 11, 10, 12] 0
def sn7 : Pos := sqN [4, 2, 3, 5, 6, 3, 2, 4, 1, 0, 1, 1, 1, 1, 1, 1, 0, 0, 0, 0, 0, 0, 0, 0, 0, 1, 0, 0, 0, 0, 0, 0, 0, 0, 0, 0, 0, 0, 0, 0, 0, 0, 0, 0, 0, 0, 0, 0, 9, 9, 9, 9, 9, 9, 9, 9, 12, 10, 11, 13, 14, 11, 10, 12] 0
def sn8 : Pos := sqN [4, 2, 3, 5, 6, 3, 2, 4, 1, 1, 0, 1, 1, 1, 1, 1, 0, 0, 1, 0, 0, 0, 0, 0, 0, 0, 0, 0, 0, 0, 0, 0, 0, 0, 0, 0, 0, 0, 0, 0, 0, 0, 0, 0, 0, 0, 0, 0, 9, 9, 9, 9, 9, 9, 9, 9, 12, 10, 11, 13, 14, 11, 10, 12] 0
def sn9 : Pos := sqN [4, 2, 3, 5, 6, 3, 2, 4, 1, 1, 0, 1, 1, 1, 1, 1, 0, 0, 0, 0, 0, 0, 0, 0, 0, 0, 1, 0, 0, 0, 0, 0, 0, 0, 0, 0, 0, 0, 0, 0, 0, 0, 0, 0, 0, 0, 0, 0, 9, 9, 9, 9, 9, 9, 9, 9, 12, 10, 11, 13, 14, 11, 10, 12] 0
def sn10 : Pos := sqN [4, 2, 3, 5, 6, 3, 2, 4, 1, 1, 1, 0, 1, 1, 1, 1, 0, 0, 0, 1, 0, 0, 0, 0, 0, 0, 0, 0, 0, 0, 0, 0, 0, 0, 0, 0, 0, 0, 0, 0, 0, 0, 0, 0, 0, 0, 0, 0, 9, 9, 9, 9, 9, 9, 9, 9, 12, 10, 11, 13, 14, 11, 10, 12] 0
def sn11 : Pos := sqN [4, 2, 3, 5, 6, 3, 2, 4, 1, 1, 1, 0, 1, 1, 1, 1, 0, 0, 0, 0, 0, 0, 0, 0, 0, 0, 0, 1, 0, 0, 0, 0, 0, 0, 0, 0, 0, 0, 0, 0, 0, 0, 0, 0, 0, 0, 0, 0, 9, 9, 9, 9, 9, 9, 9, 9, 12, 10, 11, 13, 14, 11, 10, 12] 0
def sn12 : Pos := sqN [4, 2, 3, 5, 6, 3, 2, 4, 1, 1, 1, 1, 0, 1, 1, 1, 0, 0, 0, 0, 1, 0, 0, 0, 0, 0, 0, 0, 0, 0, 0, 0, 0, 0, 0, 0, 0, 0, 0, 0, 0, 0, 0, 0, 0, 0, 0, 0, 9, 9, 9, 9, 9, 9, 9, 9, 12, 10, 11, 13, 14, 11, 10, 12] 0
def sn13 : Pos := sqN [4, 2, 3, 5, 6, 3, 2, 4, 1, 1, 1, 1, 0, 1, 1, 1, 0, 0, 0, 0, 0, 0, 0, 0, 0, 0, 0, 0, 1, 0, 0, 0, 0, 0, 0, 0, 0, 0, 0, 0, 0, 0, 0, 0, 0, 0, 0, 0, 9, 9, 9, 9, 9, 9, 9, 9, 12, 10, 11, 13, 14, 11, 10, 12] 0
def sn14 : Pos := sqN [4, 2, 3, 5, 6, 3, 2, 4, 1, 1, 1, 1, 1, 0, 1, 1, 0, 0, 0, 0, 0, 1, 0, 0, 0, 0, 0, 0, 0, 0, 0, 0, 0, 0, 0, 0, 0, 0, 0, 0, 0, 0, 0, 0, 0, 0, 0, 0, 9, 9, 9, 9, 9, 9, 9, 9, 12, 10, 11, 13, 14, 11, 10, 12] 0
def sn15 : Pos := sqN [4, 2, 3, 5, 6, 3, 2, 4, 1, 1, 1, 1, 1, 0, 1, 1, 0, 0, 0, 0, 0, 0, 0, 0, 0, 0, 0, 0, 0, 1, 0, 0, 0, 0, 0, 0, 0, 0, 0, 0, 0, 0, 0, 0, 0, 0, 0, 0, 9, 9, 9, 9, 9, 9, 9, 9, 12, 10, 11, 13, 14, 11, 10, 12] 0
def sn16 : Pos := sqN [4, 2, 3, 5, 6, 3, 2, 4, 1, 1, 1, 1, 1, 1, 0, 1, 0, 0, 0, 0, 0, 0, 1, 0, 0, 0, 0, 0, 0, 0, 0, 0, 0, 0, 0, 0, 0, 0, 0, 0, 0, 0, 0, 0, 0, 0, 0, 0, 9, 9, 9, 9, 9, 9, 9, 9, 12, 10, 11, 13, 14, 11, 10, 12] 0
def sn17 : Pos := sqN [4, 2, 3, 5, 6, 3, 2, 4, 1, 1, 1, 1, 1, 1, 0, 1, 0, 0, 0, 0, 0, 0, 0, 0, 0, 0, 0, 0, 0, 0, 1, 0, 0, 0, 0, 0, 0, 0, 0, 0, 0, 0, 0, 0, 0, 0, 0, 0, 9, 9, 9, 9, 9, 9, 9, 9, 12, 10, 11, 13, 14, 11, 10, 12] 0
def sn18 : Pos := sqN [4, 2, 3, 5, 6, 3, 2, 4, 1, 1, 1, 1, 1, 1, 1, 0, 0, 0, 0, 0, 0, 0, 0, 1, 0, 0, 0, 0, 0, 0, 0, 0, 0, 0, 0, 0, 0, 0, 0, 0, 0, 0, 0, 0, 0, 0, 0, 0, 9, 9, 9, 9, 9, 9, 9, 9, 12, 10, 11, 13, 14, 11, 10, 12] 0
def sn19 : Pos := sqN [4, 2, 3, 5, 6, 3, 2, 4, 1, 1, 1, 1, 1, 1, 1, 0, 0, 0, 0, 0, 0, 0, 0, 0, 0, 0, 0, 0, 0, 0, 0, 1, 0, 0, 0, 0, 0, 0, 0, 0, 0, 0, 0, 0, 0, 0, 0, 0, 9, 9, 9, 9, 9, 9, 9, 9, 12, 10, 11, 13, 14, 11, 10, 12] 0
def sqL : List Pos := [sn0, sn1, sn2, sn3, sn4, sn5, sn6, sn7, sn8, sn9, sn10, sn11, sn12, sn13, sn14, sn15, sn16, sn17, sn18, sn19]
theorem sl0 : (stR sn0).length = 20 := by decide +kernel
theorem sl1 : (stR sn1).length = 20 := by decide +kernel
theorem sl2 : (stR sn2).length = 20 := by decide +kernel
theorem sl3 : (stR sn3).length = 20 := by decide +kernel
theorem sl4 : (stR sn4).length = 20 := by decide +kernel
theorem sl5 : (stR sn5).length = 20 := by decide +kernel
theorem sl6 : (stR sn6).length = 20 := by decide +kernel
theorem sl7 : (stR sn7).length = 20 := by decide +kernel
theorem sl8 : (stR sn8).length = 20 := by decide +kernel
theorem sl9 : (stR sn9).length = 20 := by decide +kernel
theorem sl10 : (stR sn10).length = 20 := by decide +kernel
theorem sl11 : (stR sn11).length = 20 := by decide +kernel
theorem sl12 : (stR sn12).length = 20 := by decide +kernel
theorem sl13 : (stR sn13).length = 20 := by decide +kernel
theorem sl14 : (stR sn14).length = 20 := by decide +kernel
theorem sl15 : (stR sn15).length = 20 := by decide +kernel
theorem sl16 : (stR sn16).length = 20 := by decide +kernel
theorem sl17 : (stR sn17).length = 20 := by decide +kernel
theorem sl18 : (stR sn18).length = 20 := by decide +kernel
theorem sl19 : (stR sn19).length = 20 := by decide +kernel
theorem st_same : ((stR startP).length == 20 && (List.zipWith (eqv posT) (stR startP) sqL).all id) = true := by decide +kernel
theorem sqL_wf : (sqL.all (wfq posT)) = true := by decide +kernel
theorem zip_eq : ∀ l m : List Pos, l.length = m.length → (List.zipWith (eqv posT) l m).all id = true → (∀ x ∈ l, wf posT x) → (∀ x ∈ m, wf posT x) → l = m
  | [], [], _, _, _, _ => rfl
  | [], _ :: _, h, _, _, _ => by simp at h
  | _ :: _, [], h, _, _, _ => by simp at h
  | x :: l, y :: m, h, h2, h3, h4 => by
    simp only [List.zipWith_cons_cons, List.all_cons, Bool.and_eq_true, id] at h2
    rw [(eqv_iff posT rfl x y (h3 x (by simp)) (h4 y (by simp))).1 h2.1, zip_eq l m (by simpa using h) h2.2 (fun z hz => h3 z (by simp [hz])) (fun z hz => h4 z (by simp [hz]))]
theorem st_list : stR startP = sqL := by
  obtain ⟨h1, h2⟩ := Bool.and_eq_true_iff.1 st_same
  exact zip_eq _ _ (by rw [eq_of_beq h1]; rfl) h2 (fun x hx => (stR_ok startP_ok hx).wf) (fun x hx => wf_of_q (List.all_eq_true.1 sqL_wf x hx))
theorem start_all : (lvR 2 startP).length = 400 := by
  have e : (lvR 2 startP : List Pos) = (stR startP).flatMap fun q => stR q := by
    rw [lv_front startP 1]
    congr 1
    funext q
    show ([q] : List Pos).flatMap stR = stR q
    simp
  rw [show (lvR 2 startP).length = ((stR startP).flatMap fun q => stR q).length from congrArg List.length e, st_list]
  have h2 : (sqL.flatMap fun q => stR q).length = (stR sn0).length + ((stR sn1).length + ((stR sn2).length + ((stR sn3).length + ((stR sn4).length + ((stR sn5).length + ((stR sn6).length + ((stR sn7).length + ((stR sn8).length + ((stR sn9).length + ((stR sn10).length + ((stR sn11).length + ((stR sn12).length + ((stR sn13).length + ((stR sn14).length + ((stR sn15).length + ((stR sn16).length + ((stR sn17).length + ((stR sn18).length + ((stR sn19).length + 0))))))))))))))))))) := by
    unfold sqL
    simp only [List.flatMap_cons, List.flatMap_nil, List.length_append, List.length_nil]
  refine h2.trans ?_
  rw [sl0, sl1, sl2, sl3, sl4, sl5, sl6, sl7, sl8, sl9, sl10, sl11, sl12, sl13, sl14, sl15, sl16, sl17, sl18, sl19]
end Go.Kw
