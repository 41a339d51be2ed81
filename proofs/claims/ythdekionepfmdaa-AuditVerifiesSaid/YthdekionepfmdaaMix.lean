/- A region that draws its order, walked in ONE order: quiet operations (a fixed value in every world of a class S, the world left alone) are taken first, the others wait for one another. Plain theorems. -/
import Derived.Test.YthdekionepfmdaaEq
import Derived.OrdersHeld
set_option linter.unusedVariables false
set_option linter.unusedSimpArgs false
namespace Go.Proofs.Ythdekionepfmdaa
open Go.RowKit

/-- The orders in which the operations are walked: each with its kind: 0 an effect behind which S1 holds still · 1 a quiet one that leans on S1 · 2 a quiet one that leans on S2 alone · 3 an effect behind which S2 alone is asked ('a breaker'); and forks, where several effects may come up. -/
inductive Sch where
  | nil
  | cons (x : Nat × Nat) (r : Sch)
  | fork2 (i : Nat) (r : Sch) (j : Nat) (s : Sch)
  | fork3 (i : Nat) (r : Sch) (j : Nat) (s : Sch) (k : Nat) (t : Sch)
/-- Has a breaker come up? -/
def brk (B : List Nat) (listed : Array Bool) : Bool := B.any fun b => listed.getD b false
def waits (md : Region.Mode) (ops : Array Oper) (B : List Nat) (i : Nat) : Bool :=
  B.all fun b => match ops[b]? with
    | some o => o.after.any fun e => Region.binds md e && e.on == i
    | none => true
def permB (md : Region.Mode) (ops : Array Oper) (B : List Nat) : Sch → Nat → Array Bool → Bool
  | .nil, n, listed => decide (n = 0) && (Region.ready md ops listed).isEmpty
  | .cons (k, i) r, n, listed =>
    (match k with
      | 0 => decide (Region.ready md ops listed = [i]) && !brk B listed && !B.contains i
      | 1 => (Region.ready md ops listed).contains i && Region.free md ops listed i && !brk B listed && waits md ops B i && !B.contains i
      | 2 => (Region.ready md ops listed).contains i && Region.free md ops listed i && !B.contains i
      | _ => decide (Region.ready md ops listed = [i]) && B.contains i && decide (i < listed.size)) && decide (0 < n) && permB md ops B r (n - 1) (listed.setIfInBounds i true)
  | .fork2 i r j s, n, listed => decide (Region.ready md ops listed = [i, j]) && !brk B listed && !B.contains i && !B.contains j && decide (0 < n) && permB md ops B r (n - 1) (listed.setIfInBounds i true) && permB md ops B s (n - 1) (listed.setIfInBounds j true)
  | .fork3 i r j s k t, n, listed => decide (Region.ready md ops listed = [i, j, k]) && !brk B listed && !B.contains i && !B.contains j && !B.contains k && decide (0 < n) && permB md ops B r (n - 1) (listed.setIfInBounds i true) && permB md ops B s (n - 1) (listed.setIfInBounds j true) && permB md ops B t (n - 1) (listed.setIfInBounds k true)

def wpMix (P : Program) (ops : Array Oper) (Q : Exit → Act → World → Prop) (S1 S2 : World → Prop) : Sch → Act → World → Prop
  | .nil, a, w => Q .normal a w
  | .cons (0, i) r, a, w => wpOp P ops Q i (fun a' w' => S1 w' ∧ wpMix P ops Q S1 S2 r a' w') a w
  | .cons (1, i) r, a, w => S1 w ∧ ∃ o v, ops[i]? = some o ∧ YieldsIf P ops S1 o v a ∧ wpMix P ops Q S1 S2 r (a.put o.dst v) w
  | .cons (2, i) r, a, w => S2 w ∧ ∃ o v, ops[i]? = some o ∧ YieldsIf P ops S2 o v a ∧ wpMix P ops Q S1 S2 r (a.put o.dst v) w
  | .cons (_, i) r, a, w => wpOp P ops Q i (fun a' w' => S2 w' ∧ wpMix P ops Q S1 S2 r a' w') a w
  | .fork2 i r j s, a, w => wpOp P ops Q i (fun a' w' => S1 w' ∧ wpMix P ops Q S1 S2 r a' w') a w ∧ wpOp P ops Q j (fun a' w' => S1 w' ∧ wpMix P ops Q S1 S2 s a' w') a w
  | .fork3 i r j s k t, a, w => wpOp P ops Q i (fun a' w' => S1 w' ∧ wpMix P ops Q S1 S2 r a' w') a w ∧ wpOp P ops Q j (fun a' w' => S1 w' ∧ wpMix P ops Q S1 S2 s a' w') a w ∧ wpOp P ops Q k (fun a' w' => S1 w' ∧ wpMix P ops Q S1 S2 t a' w') a w

section
variable {P : Program} {ops : Array Oper} {Q : Exit → Act → World → Prop} {md : Region.Mode} {S1 S2 : World → Prop} {B : List Nat}
def Sb (S1 S2 : World → Prop) (B : List Nat) (l : Array Bool) (w : World) : Prop := (brk B l = false → S1 w) ∧ S2 w
/-- Whatever order is picked from here on; behind each operation S2, and S1 while no breaker has come up. -/
def wpAnyL (P : Program) (md : Region.Mode) (ops : Array Oper) (Q : Exit → Act → World → Prop) (S1 S2 : World → Prop) (B : List Nat) : Nat → Array Bool → Act → World → Prop
  | 0, listed, a, w => Region.ready md ops listed = [] ∧ Q .normal a w
  | fuel + 1, listed, a, w =>
    (Region.ready md ops listed = [] → Q .normal a w) ∧
    ∀ i ∈ Region.ready md ops listed, wpOp P ops Q i (fun a' w' => Sb S1 S2 B (listed.setIfInBounds i true) w' ∧ wpAnyL P md ops Q S1 S2 B fuel (listed.setIfInBounds i true) a' w') a w
theorem wpAny_of_L : ∀ (fuel : Nat) (listed : Array Bool) (a : Act) (w : World), wpAnyL P md ops Q S1 S2 B fuel listed a w → wpAny P md ops Q fuel listed a w
  | 0, _, _, _, h => h
  | fuel + 1, _, _, _, h => ⟨h.1, fun i hi => wpOp_mono (fun a' w' h' => wpAny_of_L fuel _ a' w' h'.2) (h.2 i hi)⟩

theorem getD_set_false {l : Array Bool} {i b : Nat} (h : b ≠ i) : (l.setIfInBounds i true).getD b false = l.getD b false := by
  simp [Array.getElem?_setIfInBounds, Ne.symm h]
theorem brk_set {l : Array Bool} {i : Nat} (h : i ∉ B) : brk B (l.setIfInBounds i true) = brk B l := by
  unfold brk
  induction B with
  | nil => rfl
  | cons b r ih =>
    simp only [List.mem_cons, not_or] at h
    simp only [List.any_cons]
    rw [ih h.2, getD_set_false (Ne.symm h.1)]

theorem wpAnyL_first {i : Nat} {oi : Oper} {v : Value} (early : Bool) (C : World → Prop) (hC1 : early = true → C = S1) (hC2 : early = false → C = S2) (hiB : i ∉ B) (hwait : early = true → waits md ops B i = true)
    (hi : ops[i]? = some oi) (hsel : ∀ (j : Nat) (o : Oper) cs b, ops[j]? = some o → o.op ≠ .select cs b)
    (hQ : ∀ c a w, Q (.panic c) (a.put oi.dst v) w → Q (.panic c) a w) :
    ∀ (fuel : Nat) (listed : Array Bool) (a : Act) (w : World), (early = true → brk B listed = false) →
      (∀ j oj, ops[j]? = some oj → j ≠ i → listed.getD j true = false → (∀ e ∈ oj.after, Region.binds md e = true → e.on ≠ i) → oi.apart ops oj = true) →
      i ∈ Region.ready md ops listed → YieldsIf P ops C oi v a → Sb S1 S2 B listed w →
      wpAnyL P md ops Q S1 S2 B fuel (listed.setIfInBounds i true) (a.put oi.dst v) w → wpAnyL P md ops Q S1 S2 B (fuel + 1) listed a w := by
  have hCw : ∀ l w, (early = true → brk B l = false) → Sb S1 S2 B l w → C w := fun l w hb hs => by
    cases early with
    | true => rw [hC1 rfl]; exact hs.1 (hb rfl)
    | false => rw [hC2 rfl]; exact hs.2
  intro fuel
  induction fuel with
  | zero =>
    intro listed a w hb _ hr hy hS H
    refine ⟨fun h => (by rw [h] at hr; cases hr), fun j hj => ?_⟩
    by_cases hji : j = i
    · subst hji
      refine hy.wpOp hi (hCw _ _ hb hS) ⟨?_, H⟩
      unfold Sb at hS ⊢; rw [brk_set hiB]; exact hS
    · have := ready_mono hj hji
      rw [H.1] at this
      cases this
  | succ fuel ih =>
    intro listed a w hb hfree hr hy hS H
    refine ⟨fun h => (by rw [h] at hr; cases hr), fun j hj => ?_⟩
    by_cases hji : j = i
    · subst hji
      refine hy.wpOp hi (hCw _ _ hb hS) ⟨?_, H⟩
      unfold Sb at hS ⊢; rw [brk_set hiB]; exact hS
    · have h1 := H.2 j (ready_mono hj hji)
      obtain ⟨hjun, oj, hoj, hall⟩ := mem_ready.1 hj
      have hnot : ∀ e ∈ oj.after, Region.binds md e = true → e.on ≠ i := fun e he hb heq => by
        have h1 := hall e he hb
        have h0 := (mem_ready.1 hr).1
        rw [heq] at h1
        rcases Nat.lt_or_ge i listed.size with h' | h'
        · simp [h'] at h0 h1; rw [h0] at h1; cases h1
        · simp [Array.getElem?_eq_none h'] at h1
      have hb' : early = true → brk B (listed.setIfInBounds j true) = false := fun he => by
        rw [brk_set]
        · exact hb he
        · intro hjB
          have hw := List.all_eq_true.1 (hwait he) j hjB
          rw [hoj] at hw
          simp only [Array.any_eq_true] at hw
          obtain ⟨k, hk, h3⟩ := hw
          simp only [Bool.and_eq_true, beq_iff_eq] at h3
          exact hnot _ (Array.getElem_mem hk) h3.1 h3.2
      have h2 := wpOp_putIf hoj (hfree j oj hoj hji hjun hnot) (fun cs b => hsel i oi cs b hi) (fun cs b => hsel j oj cs b hoj) hQ hy h1
      have hfree' : ∀ k ok, ops[k]? = some ok → k ≠ i → (listed.setIfInBounds j true).getD k true = false →
          (∀ e ∈ ok.after, Region.binds md e = true → e.on ≠ i) → oi.apart ops ok = true := fun k ok hk hki hun hno => by
        refine hfree k ok hk hki ?_ hno
        by_cases hjk : j = k
        · subst hjk; exact hjun
        · rw [getD_set_ne true hjk] at hun; exact hun
      refine wpOp_mono (fun a' w' h3 => ?_) h2
      have hSj : Sb S1 S2 B (listed.setIfInBounds j true) w' := by
        have h4 := h3.2.1
        unfold Sb at h4 ⊢
        rw [Array.setIfInBounds_comm _ _ (Ne.symm hji), brk_set hiB] at h4
        exact h4
      refine ⟨hSj, ih (listed.setIfInBounds j true) a' w' hb' hfree' (ready_mono hr (Ne.symm hji)) h3.1 hSj ?_⟩
      rw [Array.setIfInBounds_comm _ _ hji]
      exact h3.2.2

theorem wpMix_sound (hs : Region.noSelect ops = true) (h12 : ∀ w, S1 w → S2 w) (hQ : ∀ c a d v w, Q (.panic c) (Act.put a d v) w → Q (.panic c) a w) :
    ∀ (l : Sch) (n : Nat) (listed : Array Bool) (a : Act) (w : World), permB .any ops B l n listed = true → Sb S1 S2 B listed w → wpMix P ops Q S1 S2 l a w → wpAnyL P .any ops Q S1 S2 B n listed a w := by
  have eff : ∀ {listed : Array Bool} {i n : Nat} {r : Sch} {a : Act} {w : World}, brk B listed = false → i ∉ B →
      (∀ a w, Sb S1 S2 B (listed.setIfInBounds i true) w → wpMix P ops Q S1 S2 r a w → wpAnyL P .any ops Q S1 S2 B n (listed.setIfInBounds i true) a w) →
      wpOp P ops Q i (fun a' w' => S1 w' ∧ wpMix P ops Q S1 S2 r a' w') a w →
      wpOp P ops Q i (fun a' w' => Sb S1 S2 B (listed.setIfInBounds i true) w' ∧ wpAnyL P .any ops Q S1 S2 B n (listed.setIfInBounds i true) a' w') a w := by
    intro listed i n r a w h2 hiB ih h
    exact wpOp_mono (fun a' w' h' => by
      have hSb : Sb S1 S2 B (listed.setIfInBounds i true) w' := ⟨fun _ => h'.1, h12 _ h'.1⟩
      exact ⟨hSb, ih _ _ hSb h'.2⟩) h
  intro l
  induction l with
  | nil =>
    intro n listed a w hB _ h
    simp only [permB, Bool.and_eq_true, decide_eq_true_eq, List.isEmpty_iff] at hB
    obtain ⟨rfl, hB⟩ := hB
    exact ⟨hB, h⟩
  | cons x r ih =>
    obtain ⟨k, i⟩ := x
    intro n listed a w hB hS h
    have hn : 0 < n := by
      simp only [permB, Bool.and_eq_true, decide_eq_true_eq] at hB
      exact hB.1.2
    obtain ⟨n, rfl⟩ : ∃ m, n = m + 1 := ⟨n - 1, by omega⟩
    match k, hB, h with
    | 0, hB, h =>
      simp only [permB, Bool.and_eq_true, decide_eq_true_eq, Bool.not_eq_true', Nat.add_sub_cancel] at hB
      obtain ⟨⟨⟨⟨h1, h2⟩, h3⟩, _⟩, h4⟩ := hB
      have hiB : i ∉ B := by simpa using h3
      refine ⟨fun h0 => (by rw [h1] at h0; cases h0), fun j hj => ?_⟩
      rw [h1, List.mem_singleton] at hj
      subst hj
      exact eff h2 hiB (fun a w hSb hm => ih _ _ _ _ h4 hSb hm) h
    | 1, hB, h =>
      simp only [permB, Bool.and_eq_true, decide_eq_true_eq, Bool.not_eq_true', Nat.add_sub_cancel] at hB
      obtain ⟨⟨⟨⟨⟨⟨h1, h2⟩, h3⟩, h4⟩, h5⟩, _⟩, h6⟩ := hB
      have hiB : i ∉ B := by simpa using h5
      obtain ⟨hS1, o, v, ho, hy, hr⟩ := h
      exact wpAnyL_first true S1 (fun _ => rfl) (fun h => by cases h) hiB (fun _ => h4) ho (Region.noSelect_spec hs) (fun c a w hq => hQ c a o.dst v w hq) _ _ _ _ (fun _ => h3) (Region.free_spec ho h2) (by simpa using h1) hy hS
        (ih _ _ _ _ h6 (by unfold Sb at hS ⊢; rw [brk_set hiB]; exact hS) hr)
    | 2, hB, h =>
      simp only [permB, Bool.and_eq_true, decide_eq_true_eq, Bool.not_eq_true', Nat.add_sub_cancel] at hB
      obtain ⟨⟨⟨⟨h1, h2⟩, h5⟩, _⟩, h6⟩ := hB
      have hiB : i ∉ B := by simpa using h5
      obtain ⟨hS1, o, v, ho, hy, hr⟩ := h
      exact wpAnyL_first false S2 (fun h => by cases h) (fun _ => rfl) hiB (fun h => by cases h) ho (Region.noSelect_spec hs) (fun c a w hq => hQ c a o.dst v w hq) _ _ _ _ (fun h => by cases h) (Region.free_spec ho h2) (by simpa using h1) hy hS
        (ih _ _ _ _ h6 (by unfold Sb at hS ⊢; rw [brk_set hiB]; exact hS) hr)
    | k + 3, hB, h =>
      simp only [permB, Bool.and_eq_true, decide_eq_true_eq, Nat.add_sub_cancel] at hB
      obtain ⟨⟨⟨⟨h1, h2⟩, h3⟩, _⟩, h4⟩ := hB
      refine ⟨fun h0 => (by rw [h1] at h0; cases h0), fun j hj => ?_⟩
      rw [h1, List.mem_singleton] at hj
      subst hj
      have hbr : brk B (listed.setIfInBounds j true) = true := by
        refine List.any_eq_true.2 ⟨j, by simpa using h2, ?_⟩
        simp [h3]
      refine wpOp_mono (fun a' w' h' => ?_) (show wpOp P ops Q j (fun a' w' => S2 w' ∧ wpMix P ops Q S1 S2 r a' w') a w from h)
      have hSb : Sb S1 S2 B (listed.setIfInBounds j true) w' := ⟨fun h0 => (by rw [hbr] at h0; cases h0), h'.1⟩
      exact ⟨hSb, ih _ _ _ _ h4 hSb h'.2⟩
  | fork2 i r j s ih1 ih2 =>
    intro n listed a w hB hS h
    simp only [permB, Bool.and_eq_true, decide_eq_true_eq, Bool.not_eq_true'] at hB
    obtain ⟨⟨⟨⟨⟨⟨h1, h2⟩, h3⟩, h4⟩, hn⟩, h5⟩, h6⟩ := hB
    obtain ⟨n, rfl⟩ : ∃ m, n = m + 1 := ⟨n - 1, by omega⟩
    rw [Nat.add_sub_cancel] at h5 h6
    refine ⟨fun h0 => (by rw [h1] at h0; cases h0), fun q hq => ?_⟩
    rw [h1] at hq
    simp only [List.mem_cons, List.not_mem_nil, or_false] at hq
    rcases hq with rfl | rfl
    · exact eff h2 (by simpa using h3) (fun a w hSb hm => ih1 _ _ _ _ h5 hSb hm) h.1
    · exact eff h2 (by simpa using h4) (fun a w hSb hm => ih2 _ _ _ _ h6 hSb hm) h.2
  | fork3 i r j s k t ih1 ih2 ih3 =>
    intro n listed a w hB hS h
    simp only [permB, Bool.and_eq_true, decide_eq_true_eq, Bool.not_eq_true'] at hB
    obtain ⟨⟨⟨⟨⟨⟨⟨⟨h1, h2⟩, h3⟩, h4⟩, h4'⟩, hn⟩, h5⟩, h6⟩, h7⟩ := hB
    obtain ⟨n, rfl⟩ : ∃ m, n = m + 1 := ⟨n - 1, by omega⟩
    rw [Nat.add_sub_cancel] at h5 h6 h7
    refine ⟨fun h0 => (by rw [h1] at h0; cases h0), fun q hq => ?_⟩
    rw [h1] at hq
    simp only [List.mem_cons, List.not_mem_nil, or_false] at hq
    rcases hq with rfl | rfl | rfl
    · exact eff h2 (by simpa using h3) (fun a w hSb hm => ih1 _ _ _ _ h5 hSb hm) h.1
    · exact eff h2 (by simpa using h4) (fun a w hSb hm => ih2 _ _ _ _ h6 hSb hm) h.2.1
    · exact eff h2 (by simpa using h4') (fun a w hSb hm => ih3 _ _ _ _ h7 hSb hm) h.2.2
end

theorem wp_region_mix {P : Program} {id : Nat} {l : List Oper} {Q : Exit → Act → World → Prop} {a : Act} {w : World} (S1 S2 : World → Prop) (π : Sch) (B : List Nat) (hm : P.follows .mixedOrders = true)
    (hs : Region.noSelect l.toArray = true) (hB : permB .any l.toArray B π l.toArray.size (Array.replicate l.toArray.size false) = true)
    (h12 : ∀ w, S1 w → S2 w) (hS : S1 w.drew) (hQ : ∀ c a d v w, Q (.panic c) (Act.put a d v) w → Q (.panic c) a w)
    (h : wpMix P l.toArray Q S1 S2 π a w.drew) : (Code.region id l.toArray true).wp P Q a w :=
  wp_region_any hm (wpAny_of_L (S1 := S1) (S2 := S2) (B := B) _ _ _ _ (wpMix_sound hs h12 hQ π _ _ a w.drew hB ⟨fun _ => hS, h12 _ hS⟩ h))

/-- Q, but 'False' at a panic: a region that is shown not to panic serves whatever is asked of a panic. -/
def NoPan (Q : Exit → Act → World → Prop) : Exit → Act → World → Prop
  | .panic _, _, _ => False
  | e, a, w => Q e a w
theorem NoPan.imp {Q : Exit → Act → World → Prop} : ∀ (e : Exit) (a : Act) (w : World), NoPan Q e a w → Q e a w := fun e a w h => by
  cases e <;> first | exact h | exact (h : False).elim
theorem wp_region_mixN {P : Program} {id : Nat} {l : List Oper} {Q : Exit → Act → World → Prop} {a : Act} {w : World} (S1 S2 : World → Prop) (π : Sch) (B : List Nat) (hm : P.follows .mixedOrders = true)
    (hs : Region.noSelect l.toArray = true) (hB : permB .any l.toArray B π l.toArray.size (Array.replicate l.toArray.size false) = true)
    (h12 : ∀ w, S1 w → S2 w) (hS : S1 w.drew)
    (h : wpMix P l.toArray (NoPan Q) S1 S2 π a w.drew) : (Code.region id l.toArray true).wp P Q a w :=
  Code.wp_mono NoPan.imp (wp_region_mix S1 S2 π B hm hs hB h12 hS (fun _ _ _ _ _ h => h) h)
/-- The operation with a number, written out. -/
def nth : List Oper → Nat → Option Oper
  | [], _ => none
  | o :: _, 0 => some o
  | _ :: l, n + 1 => nth l n
theorem nth_eq (l : List Oper) (i : Nat) : nth l i = l.toArray[i]? := by
  induction l generalizing i with
  | nil => simp [nth]
  | cons o l ih =>
    cases i with
    | zero => simp [nth]
    | succ n => simp [nth, ih]
section
variable {P : Program} {ops : List Oper} {Q : Exit → Act → World → Prop} {S1 S2 : World → Prop} {r : Sch} {i : Nat} {a : Act} {w : World} {o : Oper} {v : Value}

theorem wm_nil (h : Q .normal a w) : wpMix P ops.toArray Q S1 S2 .nil a w := h
theorem wm_nilN (h : Q .normal a w) : wpMix P ops.toArray (NoPan Q) S1 S2 .nil a w := h
/-- A quiet one without a guard. -/
theorem wm_q1 (d : Option Tmp) (ho : nth ops i = some o) (hd : o.dst = d) (hg : o.guard = none) (hS : S1 w) (hy : ∀ W, S1 W → (execOp a.eval o).run P W = .ok (.value v) W) (h : wpMix P ops.toArray Q S1 S2 r (a.put d v) w) : wpMix P ops.toArray Q S1 S2 (.cons (1, i) r) a w := by
  subst hd; exact ⟨hS, o, v, by rw [← nth_eq]; exact ho, .inl ⟨by simp [Region.wanted, hg], hy⟩, h⟩
theorem wm_q2 (d : Option Tmp) (ho : nth ops i = some o) (hd : o.dst = d) (hg : o.guard = none) (hS : S2 w) (hy : ∀ W, S2 W → (execOp a.eval o).run P W = .ok (.value v) W) (h : wpMix P ops.toArray Q S1 S2 r (a.put d v) w) : wpMix P ops.toArray Q S1 S2 (.cons (2, i) r) a w := by
  subst hd; exact ⟨hS, o, v, by rw [← nth_eq]; exact ho, .inl ⟨by simp [Region.wanted, hg], hy⟩, h⟩
/-- A guarded one whose guard is met. -/
theorem wm_g1 (d : Option Tmp) (ho : nth ops i = some o) (hd : o.dst = d) (hg : Region.wanted o (yielded ops.toArray a.tmps) = true) (hS : S1 w) (hy : ∀ W, S1 W → (execOp a.eval o).run P W = .ok (.value v) W) (h : wpMix P ops.toArray Q S1 S2 r (a.put d v) w) : wpMix P ops.toArray Q S1 S2 (.cons (1, i) r) a w := by
  subst hd; exact ⟨hS, o, v, by rw [← nth_eq]; exact ho, .inl ⟨hg, hy⟩, h⟩
theorem wm_g2 (d : Option Tmp) (ho : nth ops i = some o) (hd : o.dst = d) (hg : Region.wanted o (yielded ops.toArray a.tmps) = true) (hS : S2 w) (hy : ∀ W, S2 W → (execOp a.eval o).run P W = .ok (.value v) W) (h : wpMix P ops.toArray Q S1 S2 r (a.put d v) w) : wpMix P ops.toArray Q S1 S2 (.cons (2, i) r) a w := by
  subst hd; exact ⟨hS, o, v, by rw [← nth_eq]; exact ho, .inl ⟨hg, hy⟩, h⟩
theorem wm_q1x {Φ : Value → Prop} (d : Option Tmp) (ho : nth ops i = some o) (hd : o.dst = d) (hg : o.guard = none) (hS : S1 w) (hy : ∃ v, (∀ W, (execOp a.eval o).run P W = .ok (.value v) W) ∧ Φ v) (h : ∀ v, Φ v → wpMix P ops.toArray Q S1 S2 r (a.put d v) w) : wpMix P ops.toArray Q S1 S2 (.cons (1, i) r) a w := by
  obtain ⟨v, h1, h2⟩ := hy
  exact wm_q1 d ho hd hg hS (fun W _ => h1 W) (h v h2)
theorem wm_g1x {Φ : Value → Prop} (d : Option Tmp) (ho : nth ops i = some o) (hd : o.dst = d) (hg : Region.wanted o (yielded ops.toArray a.tmps) = true) (hS : S1 w) (hy : ∃ v, (∀ W, (execOp a.eval o).run P W = .ok (.value v) W) ∧ Φ v) (h : ∀ v, Φ v → wpMix P ops.toArray Q S1 S2 r (a.put d v) w) : wpMix P ops.toArray Q S1 S2 (.cons (1, i) r) a w := by
  obtain ⟨v, h1, h2⟩ := hy
  subst hd; exact ⟨hS, o, v, by rw [← nth_eq]; exact ho, .inl ⟨hg, fun W _ => h1 W⟩, h v h2⟩
theorem wm_q2x {Φ : Value → Prop} (d : Option Tmp) (ho : nth ops i = some o) (hd : o.dst = d) (hg : o.guard = none) (hS : S2 w) (hy : ∃ v, (∀ W, (execOp a.eval o).run P W = .ok (.value v) W) ∧ Φ v) (h : ∀ v, Φ v → wpMix P ops.toArray Q S1 S2 r (a.put d v) w) : wpMix P ops.toArray Q S1 S2 (.cons (2, i) r) a w := by
  obtain ⟨v, h1, h2⟩ := hy
  exact wm_q2 d ho hd hg hS (fun W _ => h1 W) (h v h2)
theorem wm_g2x {Φ : Value → Prop} (d : Option Tmp) (ho : nth ops i = some o) (hd : o.dst = d) (hg : Region.wanted o (yielded ops.toArray a.tmps) = true) (hS : S2 w) (hy : ∃ v, (∀ W, (execOp a.eval o).run P W = .ok (.value v) W) ∧ Φ v) (h : ∀ v, Φ v → wpMix P ops.toArray Q S1 S2 r (a.put d v) w) : wpMix P ops.toArray Q S1 S2 (.cons (2, i) r) a w := by
  obtain ⟨v, h1, h2⟩ := hy
  subst hd; exact ⟨hS, o, v, by rw [← nth_eq]; exact ho, .inl ⟨hg, fun W _ => h1 W⟩, h v h2⟩
/-- One whose guard is not met: it is passed over. -/
theorem wm_s1 (d : Option Tmp) (ho : nth ops i = some o) (hd : o.dst = d) (hg : Region.wanted o (yielded ops.toArray a.tmps) = false) (hS : S1 w) (h : wpMix P ops.toArray Q S1 S2 r (a.put d undef) w) : wpMix P ops.toArray Q S1 S2 (.cons (1, i) r) a w := by
  subst hd; exact ⟨hS, o, undef, by rw [← nth_eq]; exact ho, .inr ⟨hg, rfl⟩, h⟩
theorem wm_s2 (d : Option Tmp) (ho : nth ops i = some o) (hd : o.dst = d) (hg : Region.wanted o (yielded ops.toArray a.tmps) = false) (hS : S2 w) (h : wpMix P ops.toArray Q S1 S2 r (a.put d undef) w) : wpMix P ops.toArray Q S1 S2 (.cons (2, i) r) a w := by
  subst hd; exact ⟨hS, o, undef, by rw [← nth_eq]; exact ho, .inr ⟨hg, rfl⟩, h⟩
theorem wm_es0 (d : Option Tmp) (ho : nth ops i = some o) (hd : o.dst = d) (hg : Region.wanted o (yielded ops.toArray a.tmps) = false) (hS : S1 w) (h : wpMix P ops.toArray Q S1 S2 r (a.put d undef) w) : wpMix P ops.toArray Q S1 S2 (.cons (0, i) r) a w := by
  subst hd
  show wpOp P ops.toArray Q i _ a w
  rw [nth_eq] at ho
  unfold wpOp
  simp only [ho, hg, Bool.false_eq_true, if_false]
  exact ⟨hS, h⟩
theorem wm_es3 (d : Option Tmp) (ho : nth ops i = some o) (hd : o.dst = d) (hg : Region.wanted o (yielded ops.toArray a.tmps) = false) (hS : S2 w) (h : wpMix P ops.toArray Q S1 S2 r (a.put d undef) w) : wpMix P ops.toArray Q S1 S2 (.cons (3, i) r) a w := by
  subst hd
  show wpOp P ops.toArray Q i _ a w
  rw [nth_eq] at ho
  unfold wpOp
  simp only [ho, hg, Bool.false_eq_true, if_false]
  exact ⟨hS, h⟩
/-- Any other, by the walk's own words: its goal is a list of one operation. -/
theorem wpOp_list {K : Act → World → Prop} (ho : nth ops i = some o) (h : wpList P ops.toArray (Exit.then K Q) [o] a w) : wpOp P ops.toArray Q i K a w := by
  rw [nth_eq] at ho
  unfold wpOp
  simp only [ho]
  unfold wpList at h
  have hP : ∀ (x : Result Next), o.upon P a (wpList P ops.toArray (Exit.then K Q) []) (Exit.then K Q) x → o.upon P a K Q x := by
    intro x hx
    cases x with
    | ok n w' =>
      cases n <;> simp only [Oper.upon] at hx ⊢
      case value u => exact hx
      case skip => exact hx
      case defer d => exact hx
      case enter f args => exact Calls.mono hx (fun e w'' he => by cases e <;> exact he)
      case row row args => exact Rows.mono hx (fun _ _ he => he)
    | halt y w' => cases y <;> simp only [Oper.upon] at hx ⊢; exact hx
  split at h
  · rename_i hw
    rw [if_pos hw]
    rcases h with h | ⟨h1, h2⟩
    · exact .inl (hP _ h)
    · exact .inr ⟨h1, by obtain ⟨a', w', h3⟩ := h2; exact ⟨a', w', h3⟩⟩
  · rename_i hw
    rw [if_neg hw]
    exact h
theorem wm_e0 (ho : nth ops i = some o) (h : wpList P ops.toArray (Exit.then (fun a' w' => S1 w' ∧ wpMix P ops.toArray Q S1 S2 r a' w') Q) [o] a w) : wpMix P ops.toArray Q S1 S2 (.cons (0, i) r) a w := wpOp_list ho h
theorem wm_e3 (ho : nth ops i = some o) (h : wpList P ops.toArray (Exit.then (fun a' w' => S2 w' ∧ wpMix P ops.toArray Q S1 S2 r a' w') Q) [o] a w) : wpMix P ops.toArray Q S1 S2 (.cons (3, i) r) a w := wpOp_list ho h
theorem wm_fork2 {i j : Nat} {r s : Sch} (h1 : wpMix P ops.toArray Q S1 S2 (.cons (0, i) r) a w) (h2 : wpMix P ops.toArray Q S1 S2 (.cons (0, j) s) a w) : wpMix P ops.toArray Q S1 S2 (.fork2 i r j s) a w := ⟨h1, h2⟩
theorem wm_fork3 {i j k : Nat} {r s t : Sch} (h1 : wpMix P ops.toArray Q S1 S2 (.cons (0, i) r) a w) (h2 : wpMix P ops.toArray Q S1 S2 (.cons (0, j) s) a w) (h3 : wpMix P ops.toArray Q S1 S2 (.cons (0, k) t) a w) : wpMix P ops.toArray Q S1 S2 (.fork3 i r j s k t) a w := ⟨h1, h2, h3⟩
end

/-! ### What quiet operations yield -/
/-- Below the start all is as it was, and these items hold: what a region's operations may lean on. -/
structure Held (w0 W : World) (L : List It) : Prop where
  below : Below w0.heap.size w0 W
  ok : ∀ x ∈ L, x.ok w0.heap.size W
theorem Mem.held {w0 W : World} {L L' : List It} (h : Mem w0 W L) (hs : ∀ x ∈ L', x ∈ L) : Held w0 W L' := ⟨h.below, fun x hx => h.ok x (hs x hx)⟩
theorem Held.blk {w0 W : World} {L : List It} (h : Held w0 W L) {b : Nat} {cs : Array Value} {t : TypeId} (hk : It.blk b cs t ∈ L) : W.heap[b]? = some (.cells cs t (0, 0)) :=
  (h.ok _ hk).2
theorem Held.row {w0 W : World} {L : List It} (h : Held w0 W L) {v : Value} {e : TypeId} {size n : Nat} {xs : List Value} (hk : It.row v e size n xs ∈ L) : W.ownsRow w0.heap.size e size v n xs :=
  h.ok _ hk
theorem Held.rdRow {α : Type} {enc : α → List Value} {size : Nat} (hs : 0 < size) (he : ∀ x, (enc x).length = size) {w0 W : World} {L : List It} (h : Held w0 W L) {v : Value} {e : TypeId} {n : Nat} {l : List α} (hk : It.row v e size n (l.flatMap enc) ∈ L) : RdL enc size W v l :=
  (RdL.own hs he (h.row hk)).2
theorem rd_row {α : Type} {enc : α → List Value} {size : Nat} {w0 W : World} {L : List It} (h : Mem w0 W L) {v : Value} {e : TypeId} {n : Nat} {xs : List Value} {l : List α} (hk : It.row v e size n xs ∈ L) (hx : xs = l.flatMap enc) (hs : 0 < size := by decide)
    (he : ∀ x, (enc x).length = size := by exact encB_len) : RdL enc size W v l := by subst hx; exact h.rdRow hs he hk
theorem rd_rowH {α : Type} {enc : α → List Value} {size : Nat} {w0 W : World} {L : List It} (h : Held w0 W L) {v : Value} {e : TypeId} {n : Nat} {xs : List Value} {l : List α} (hk : It.row v e size n xs ∈ L) (hx : xs = l.flatMap enc) (hs : 0 < size := by decide)
    (he : ∀ x, (enc x).length = size := by exact encB_len) : RdL enc size W v l := by subst hx; exact h.rdRow hs he hk
theorem Held.weak {w0 W : World} {L L' : List It} (h : Held w0 W L) (hs : ∀ x ∈ L', x ∈ L) : Held w0 W L' := ⟨h.below, fun x hx => h.ok x (hs x hx)⟩
theorem RdL.held {α : Type} {enc : α → List Value} {size : Nat} {w W : World} {v : Value} {l : List α} {L : List It} (h : RdL enc size w v l) (hm : Held w W L) : RdL enc size W v l := h.below hm.below
theorem At.held {w0 W : World} {L : List It} {p : Value} {cs : List Value} (h : At w0 p cs) (hm : Held w0 W L) : At W p cs := by
  obtain ⟨b, o, e, hr⟩ := h
  exact ⟨b, o, e, rangeAt_below hm.below hr⟩
section
variable {P : Program} {a : Act} {w0 W : World} {L : List It} {dst : Option Tmp} {tt : TypeId} {ps : String} {af : Array Edge} {gd : Option (Nat × Bool)}

theorem ry_load_at (ty : TypeId) (x : Operand) (p : Value) (cs : List Value) (d : TypeDesc) (hx : a.eval x = p) (hp : At W p cs) (hu : P.underlying ty = some d) (hd : d.isRow = true) (hi : (P.info? ty).map (·.size) = some cs.length) :
    (execOp a.eval (Oper.mk dst (.load ty x) tt ps af gd)).run P W = .ok (.value (.agg cs.toArray)) W := by
  obtain ⟨b, o, rfl, hr⟩ := hp
  unfold execOp
  simp only [hx, Instr.loadAt, Instr.sureAddr, Sem.run_bind, Sem.run_pure, Result.andThen_ok, run_loadVar_mid W b o ty cs d hr hu hd hi]
theorem ry_load_at1 (ty : TypeId) (x : Operand) (p : Value) (v : Value) (d : TypeDesc) (hx : a.eval x = p) (hp : At W p [v]) (hu : P.underlying ty = some d) (hd : d.isRow = false) :
    (execOp a.eval (Oper.mk dst (.load ty x) tt ps af gd)).run P W = .ok (.value v) W := by
  obtain ⟨b, o, rfl, hr⟩ := hp
  have hc : W.cell? ⟨b, o, none⟩ = some v := by simpa using hr 0 v rfl
  unfold execOp
  simp only [hx, Instr.loadAt, Instr.sureAddr, Sem.run_bind, Sem.run_pure, Result.andThen_ok, run_loadVar_cell hu hd hc]
theorem At.blk {b : Nat} {cs : Array Value} {t : TypeId} (h : W.heap[b]? = some (.cells cs t (0, 0))) : At W (.pointer (some ⟨b, 0, none⟩)) cs.toList :=
  ⟨b, 0, rfl, fun j v hv => by rw [cell_of_row W b _ cs t _ h]; simpa using hv⟩
theorem ry_load_blk (ty : TypeId) (x : Operand) (b : Nat) (cs : Array Value) (t : TypeId) (d : TypeDesc) (HM : Held w0 W L) (hx : a.eval x = .pointer (some ⟨b, 0, none⟩)) (hk : It.blk b cs t ∈ L)
    (hu : P.underlying ty = some d) (hd : d.isRow = true) (hi : (P.info? ty).map (·.size) = some cs.size) :
    (execOp a.eval (Oper.mk dst (.load ty x) tt ps af gd)).run P W = .ok (.value (.agg cs)) W := by
  have := ry_load_at (P := P) (dst := dst) (tt := tt) (ps := ps) (af := af) (gd := gd) ty x _ cs.toList d hx (At.blk (HM.blk hk)) hu hd (by simpa using hi)
  simpa using this
theorem ry_load_cell (ty : TypeId) (x : Operand) (b o : Nat) (cs : Array Value) (t : TypeId) (v : Value) (d : TypeDesc) (HM : Held w0 W L) (hx : a.eval x = .pointer (some ⟨b, o, none⟩)) (hk : It.blk b cs t ∈ L)
    (hv : cs[o]? = some v) (hu : P.underlying ty = some d) (hd : d.isRow = false) :
    (execOp a.eval (Oper.mk dst (.load ty x) tt ps af gd)).run P W = .ok (.value v) W :=
  ry_load_at1 ty x _ v d hx ⟨b, o, rfl, fun j u hu' => by
    cases j with
    | zero => simp only [List.getElem?_cons_zero, Option.some.injEq] at hu'; subst hu'; rw [cell_of_row W b _ cs t _ (HM.blk hk)]; exact hv
    | succ j => simp at hu'⟩ hu hd
theorem ry_load_sub (ty : TypeId) (x : Operand) (b o n : Nat) (cs cs' : Array Value) (t : TypeId) (d : TypeDesc) (HM : Held w0 W L) (hx : a.eval x = .pointer (some ⟨b, o, none⟩)) (hk : It.blk b cs t ∈ L)
    (hu : P.underlying ty = some d) (hd : d.isRow = true) (hi : (P.info? ty).map (·.size) = some n) (hc : cs.extract o (o + n) = cs') (hn : cs'.size = n) :
    (execOp a.eval (Oper.mk dst (.load ty x) tt ps af gd)).run P W = .ok (.value (.agg cs')) W := by
  have hr := World.rangeAt_of_block (HM.blk hk) o n
  rw [hc] at hr
  have := ry_load_at (P := P) (dst := dst) (tt := tt) (ps := ps) (af := af) (gd := gd) ty x _ cs'.toList d hx ⟨b, o, rfl, hr⟩ hu hd (by rw [hi]; simp [hn])
  simpa using this
theorem ry_len {α : Type} {enc : α → List Value} {size : Nat} {w1 : World} (x : Operand) (v : Value) (l : List α) (t e : TypeId) (ht : P.underlying t = some (.slice e)) (hR : RdL enc size w1 v l) (hx : a.eval x = v) :
    (execOp a.eval (Oper.mk dst (.call { callee := .builtin .len, args := #[x], argTypes := #[t] }) tt ps af gd)).run P W = .ok (.value (.int .i64 l.length)) W := by
  obtain ⟨A, c, rfl, _⟩ := hR
  unfold execOp
  simp only [resolve, invoke, builtin, Sem.run_bind, Sem.run_pure, Result.andThen_ok, List.map_toArray, List.map_cons, List.map_nil, hx]
  simp [Builtin.len_, Builtin.lenOf, goInt, run_underlying ht]
theorem ry_index {α : Type} {enc : α → List Value} {size : Nat} (t e : TypeId) (x i : Operand) (v : Value) (l : List α) (ki : IntKind) (n : Int) (u : α) (S : World → Prop) (w : World) (he : ∀ x, (enc x).length = size) (ht : P.underlying t = some (.slice e)) (hs : (P.info? e).map (·.size) = some size)
    (hS : S w) (hR : ∀ W, S W → RdL enc size W v l) (hx : a.eval x = v) (hi : a.eval i = .int ki n) (hn : 0 ≤ n) (hu : l[n.toNat]? = some u) :
    ∃ p, (∀ W, (execOp a.eval (Oper.mk dst (.indexAddr t x i) tt ps af gd)).run P W = .ok (.value p) W) ∧ ∀ W, S W → At W p (enc u) := by
  have hlt : n.toNat < l.length := (List.getElem?_eq_some_iff.1 hu).1
  obtain ⟨b, o, c, hv, hr⟩ := RdL.elem he (hR w hS) n.toNat u hu
  refine ⟨.pointer (some ⟨b, o + n.toNat * size, none⟩), fun W => ?_, fun W hW => ?_⟩
  · subst hv
    cases hq : P.info? e with
    | none => simp [hq] at hs
    | some ie =>
      have hsz : ie.size = size := by simpa [hq] using hs
      unfold execOp
      simp only [Instr.indexAt, hx, hi, Sem.run_bind, Sem.run_pure, Result.andThen_ok, asIntOf, run_underlying ht, Bool.and_false, sizeOf, typeInfo, hq]
      have hcond : 0 ≤ n ∧ n < (l.length : Int) := ⟨hn, by omega⟩
      simp [hcond, hq, hsz, Addr.add_mid]
  · obtain ⟨b', o', c', hv', hr'⟩ := RdL.elem he (hR W hW) n.toNat u hu
    rw [hv] at hv'
    injection hv' with h1 _ _
    injection h1 with h1
    injection h1 with h1 h2
    subst h1; subst h2
    exact ⟨b, _, rfl, hr'⟩
theorem ry_slice_lo {α : Type} {enc : α → List Value} {size : Nat} {w1 : World} (t e : TypeId) (x lo : Operand) (v : Value) (l : List α) (k1 : IntKind) (i : Int) (he : ∀ x, (enc x).length = size) (ht : P.underlying t = some (.slice e)) (hs : (P.info? e).map (·.size) = some size)
    (hR : RdL enc size w1 v l) (hx : a.eval x = v) (hlo : a.eval lo = .int k1 i) (hi0 : 0 ≤ i) (hi : i ≤ l.length) :
    ∃ v', (∀ W, (execOp a.eval (Oper.mk dst (.slice t x (some lo) none none) tt ps af gd)).run P W = .ok (.value v') W) ∧ ∀ w2, RdL enc size w2 v l → RdL enc size w2 v' (l.drop i.toNat) := by
  obtain ⟨A, c, rfl, hc, hm, _⟩ := hR
  refine ⟨.slice (if c = i.toNat then A else A.map (·.add (i.toNat * size))) (l.length - i.toNat) (c - i.toNat), fun W => ?_, fun w2 h2 => ?_⟩
  · cases hq : P.info? e with
    | none => simp [hq] at hs
    | some ie =>
      have hsz : ie.size = size := by simpa [hq] using hs
      unfold execOp
      simp only [Instr.sliceAt, Instr.slice, Instr.sliceBounds, Instr.sliceBound, hx, hlo, Option.map_some, Option.map_none, Sem.run_bind, Sem.run_pure, Result.andThen_ok, asIntOf, run_underlying ht, sizeOf, typeInfo, hq]
      have hcond : 0 ≤ i ∧ i ≤ (l.length : Int) := ⟨hi0, hi⟩
      simp [hcond, hq, hsz]
  · have hcut := RdL.cut he h2 i.toNat l.length (by omega) (Nat.le_refl _)
    rw [List.take_length] at hcut
    exact hcut
theorem ry_slice_hi {α : Type} {enc : α → List Value} {size : Nat} {w1 : World} (t e : TypeId) (x hi : Operand) (v : Value) (l : List α) (k1 : IntKind) (j : Int) (he : ∀ x, (enc x).length = size) (ht : P.underlying t = some (.slice e)) (hs : (P.info? e).map (·.size) = some size)
    (hR : RdL enc size w1 v l) (hx : a.eval x = v) (hhi : a.eval hi = .int k1 j) (hj0 : 0 ≤ j) (hj : j ≤ l.length) :
    ∃ v', (∀ W, (execOp a.eval (Oper.mk dst (.slice t x none (some hi) none) tt ps af gd)).run P W = .ok (.value v') W) ∧ ∀ w2, RdL enc size w2 v l → RdL enc size w2 v' (l.take j.toNat) := by
  obtain ⟨A, c, rfl, hc, hm, _⟩ := hR
  refine ⟨.slice A j.toNat c, fun W => ?_, fun w2 h2 => ?_⟩
  · cases hq : P.info? e with
    | none => simp [hq] at hs
    | some ie =>
      have hsz : ie.size = size := by simpa [hq] using hs
      unfold execOp
      simp only [Instr.sliceAt, Instr.slice, Instr.sliceBounds, Instr.sliceBound, hx, hhi, Option.map_some, Option.map_none, Sem.run_bind, Sem.run_pure, Result.andThen_ok, asIntOf, run_underlying ht, sizeOf, typeInfo, hq]
      have hcond : 0 ≤ j ∧ j ≤ (c : Int) := ⟨hj0, by omega⟩
      have hA : Option.map (fun x : Addr => x.add 0) A = A := by cases A <;> simp [Addr.add]
      simp [hcond, hq, hsz, hA]
  · have hcut := RdL.cut he h2 0 j.toNat (by omega) (by omega)
    rw [List.drop_zero] at hcut
    have hv : (Value.slice (if c = 0 then A else Option.map (fun x => x.add (0 * size)) A) (j.toNat - 0) (c - 0)) = .slice A j.toNat c := by
      have : Option.map (fun x : Addr => x.add (0 * size)) A = A := by cases A <;> simp [Addr.add]
      rw [this]; simp
    rw [hv] at hcut
    exact hcut
end
end Go.Proofs.Ythdekionepfmdaa
