/- Laws of the walk over an opaque world: one fact 'Mem w0 W L' says what the call's own blocks and rows hold. Plain theorems; nothing of the program is named. -/
import Derived.WalkKit
import Derived.WalkSpells
import Derived.WalkLawsBesides
import Derived.Deep.QuietTactic
import Derived.BigQuiet
import Derived.Deep.MidRow
import Derived.Deep.LoopGhost
import Derived.Deep.RegionWith
import Derived.KernelRfl
set_option linter.unusedVariables false
set_option linter.unusedSimpArgs false
namespace Go.Proofs.Ythdekionepfmdaa
open Go.RowKit

/-- What is owned: a block known whole, or a row that may grow. -/
inductive It where
  | blk (b : Nat) (cs : Array Value) (t : TypeId)
  | row (v : Value) (e : TypeId) (size n : Nat) (xs : List Value)
  | obj (b : Nat) (o : Obj)

def It.at : It → Option Nat
  | .blk b _ _ => some b
  | .row v _ _ _ _ => v.ownBlock
  | .obj b _ => some b

def It.ok (B : Nat) (W : World) : It → Prop
  | .blk b cs t => B ≤ b ∧ W.heap[b]? = some (.cells cs t (0, 0))
  | .row v e size n xs => W.ownsRow B e size v n xs
  | .obj b o => B ≤ b ∧ W.heap[b]? = some o

def Apart (x y : It) : Prop := ∀ b, x.at = some b → y.at = some b → False

structure Mem (w0 W : World) (L : List It) : Prop where
  below : Below w0.heap.size w0 W
  ok : ∀ x ∈ L, x.ok w0.heap.size W
  apart : L.Pairwise Apart

theorem It.ok.range {B : Nat} {W : World} {x : It} (h : x.ok B W) : ∀ b, x.at = some b → B ≤ b ∧ b < W.heap.size := by
  intro b hb
  cases x with
  | blk b' cs t =>
    simp only [It.at, Option.some.injEq] at hb
    subst hb
    exact ⟨h.1, (Array.getElem?_eq_some_iff.1 h.2).1⟩
  | row v e size n xs => exact World.ownsRow.lt h b hb
  | obj b' o =>
    simp only [It.at, Option.some.injEq] at hb
    subst hb
    exact ⟨h.1, (Array.getElem?_eq_some_iff.1 h.2).1⟩

theorem It.ok.kept {B : Nat} {W W' : World} {x : It} (h : x.ok B W) {row : Option Nat} (hg : W.grownBy W' row) (hne : ∀ b, x.at = some b → row ≠ some b) : x.ok B W' := by
  cases x with
  | blk b cs t =>
    refine ⟨h.1, ?_⟩
    rw [hg.block b (Array.getElem?_eq_some_iff.1 h.2).1 (fun e => hne b rfl e.symm)]
    exact h.2
  | row v e size n xs =>
    refine World.ownsRow.kept h hg ?_
    cases hv : v.ownBlock with
    | none => exact .inl rfl
    | some b => exact .inr (fun e => hne b hv e.symm)
  | obj b o =>
    refine ⟨h.1, ?_⟩
    rw [hg.block b (Array.getElem?_eq_some_iff.1 h.2).1 (fun e => hne b rfl e.symm)]
    exact h.2

theorem It.ok.mono {B B' : Nat} {W : World} {x : It} (h : x.ok B W) (hB : B' ≤ B) : x.ok B' W := by
  cases x with
  | blk b cs t => exact ⟨Nat.le_trans hB h.1, h.2⟩
  | row v e size n xs =>
    refine ⟨h.1, ?_⟩
    rcases h.2 with hn | ⟨g, cap, cur, hv, hb, r⟩
    · exact .inl hn
    · exact .inr ⟨g, cap, cur, hv, Nat.le_trans hB hb, r⟩
  | obj b o => exact ⟨Nat.le_trans hB h.1, h.2⟩

theorem Mem.start (w : World) : Mem w w [] := ⟨Below.refl _ _, by simp, List.Pairwise.nil⟩

theorem grownBy_of_below {w w1 : World} (h : Below w.heap.size w w1) (row : Option Nat) : w.grownBy w1 row := ⟨h.os, h.tape, h.output, h.size, fun i hi _ => h.block i hi⟩

theorem Mem.size {w0 W : World} {L : List It} (h : Mem w0 W L) : w0.heap.size ≤ W.heap.size := h.below.size

theorem Mem.keep {w0 W W' : World} {L : List It} (h : Mem w0 W L) (hb : Below W.heap.size W W') : Mem w0 W' L :=
  ⟨h.below.trans (hb.mono h.size), fun x hx => (h.ok x hx).kept (grownBy_of_below hb none) (by simp), h.apart⟩

theorem Mem.drew {w0 W : World} {L : List It} (h : Mem w0 W L) : Mem w0 W.drew L := h.keep (Below.refl _ _).drew
theorem Mem.drewN {w0 W : World} {L : List It} (h : Mem w0 W L) (n : Nat) : Mem w0 (W.drewN n) L := by
  induction n generalizing W with
  | zero => exact h
  | succ n ih => rw [← World.drew_drewN]; exact (ih h).drew

theorem Mem.join {w0 W W' : World} {L L' : List It} (h : Mem w0 W L) (h' : Mem W W' L') : Mem w0 W' (L' ++ L) := by
  refine ⟨(h.keep h'.below).below, fun x hx => ?_, ?_⟩
  · rcases List.mem_append.1 hx with hx | hx
    · exact (h'.ok x hx).mono h.size
    · exact (h.keep h'.below).ok x hx
  · refine List.pairwise_append.2 ⟨h'.apart, h.apart, fun x hx y hy b hb hb' => ?_⟩
    have h1 := ((h'.ok x hx).range b hb).1
    have h2 := ((h.ok y hy).range b hb').2
    omega

theorem Mem.sub {w0 W : World} {L L' : List It} (h : Mem w0 W L) (hs : L'.Sublist L) : Mem w0 W L' :=
  ⟨h.below, fun x hx => h.ok x (hs.subset hx), h.apart.sublist hs⟩

theorem Apart.symm {x y : It} (h : Apart x y) : Apart y x := fun b h1 h2 => h b h2 h1
theorem Mem.perm {w0 W : World} {L L' : List It} (h : Mem w0 W L) (hp : L.Perm L') : Mem w0 W L' :=
  ⟨h.below, fun x hx => h.ok x (hp.mem_iff.2 hx), (hp.pairwise_iff (fun h => h.symm)).1 h.apart⟩
theorem Mem.base {w0 W : World} {L : List It} (h : Mem w0 W L) : Mem w0 W [] := h.sub (List.nil_sublist _)
theorem Mem.tail {w0 W : World} {x : It} {L : List It} (h : Mem w0 W (x :: L)) : Mem w0 W L := h.sub (List.sublist_cons_self _ _)

/-- A new block. -/
theorem Mem.new {w0 W : World} {L : List It} (h : Mem w0 W L) (cs : Array Value) (t : TypeId) : Mem w0 (W.alloc (.cells cs t)) (.blk W.heap.size cs t :: L) := by
  have hj := Mem.join (W' := W.alloc (.cells cs t)) (L' := [.blk W.heap.size cs t]) h
    ⟨(Below.refl _ _).alloc (Nat.le_refl _) _, by simp only [List.mem_singleton]; rintro x rfl; exact ⟨Nat.le_refl _, heap_alloc_new W _⟩, by simp⟩
  simpa using hj

/-- What one item's block turned into: the others stay. -/
theorem Mem.turnAt {w0 W W' : World} {L : List It} (h : Mem w0 W L) (k : Nat) (x x' : It) (hk : L[k]? = some x) (hg : W.grownBy W' x.at) (hx' : x'.ok w0.heap.size W')
    (hat : ∀ b, x'.at = some b → x.at = some b ∨ W.heap.size ≤ b) : Mem w0 W' (L.set k x') := by
  have hklt : k < L.length := (List.getElem?_eq_some_iff.1 hk).1
  have hxL : x ∈ L := List.mem_of_getElem? hk
  have hap : ∀ j y, j ≠ k → L[j]? = some y → Apart x y := by
    intro j y hj hy
    have hjlt : j < L.length := (List.getElem?_eq_some_iff.1 hy).1
    have hP := List.pairwise_iff_getElem.1 h.apart
    have e1 : L[k] = x := (List.getElem?_eq_some_iff.1 hk).2
    have e2 : L[j] = y := (List.getElem?_eq_some_iff.1 hy).2
    rcases Nat.lt_or_ge j k with hlt | hge
    · have := hP j k hjlt hklt hlt
      rw [e1, e2] at this
      exact this.symm
    · have := hP k j hklt hjlt (by omega)
      rw [e1, e2] at this
      exact this
  have hother : ∀ j y, j ≠ k → L[j]? = some y → y.ok w0.heap.size W' := by
    intro j y hj hy
    refine (h.ok y (List.mem_of_getElem? hy)).kept hg (fun b hb e => ?_)
    exact hap j y hj hy b e hb
  refine ⟨?_, ?_, ?_⟩
  · refine Below.grown h.below hg h.size (fun b hb => ?_)
    exact ((h.ok x hxL).range b hb).1
  · intro y hy
    obtain ⟨j, hj⟩ := List.mem_iff_getElem?.1 hy
    rw [List.getElem?_set] at hj
    split at hj
    · rename_i e
      simp only [hklt, if_true, Option.some.injEq] at hj
      subst hj; exact hx'
    · rename_i e
      exact hother j y (fun e' => e e'.symm) hj
  · rw [List.pairwise_iff_getElem]
    intro i j hi hj hij
    have hil : i < L.length := by simpa using hi
    have hjl : j < L.length := by simpa using hj
    have hP := List.pairwise_iff_getElem.1 h.apart
    have new : ∀ m y, m ≠ k → L[m]? = some y → Apart x' y := by
      intro m y hm hy b hb hb'
      rcases hat b hb with hb1 | hb1
      · exact hap m y hm hy b hb1 hb'
      · have := ((h.ok y (List.mem_of_getElem? hy)).range b hb').2
        omega
    rw [List.getElem_set, List.getElem_set]
    by_cases e1 : k = i
    · subst e1
      rw [if_pos rfl, if_neg (by omega)]
      exact new j _ (by omega) (List.getElem?_eq_getElem hjl)
    · rw [if_neg e1]
      by_cases e2 : k = j
      · subst e2
        rw [if_pos rfl]
        exact (new i _ (by omega) (List.getElem?_eq_getElem hil)).symm
      · rw [if_neg e2]
        exact hP i j hil hjl hij

/-- L' is L with one item x turned into x'. -/
inductive Repl (x x' : It) : List It → List It → Prop where
  | here {l : List It} : Repl x x' (x :: l) (x' :: l)
  | there {y : It} {l l' : List It} (h : Repl x x' l l') : Repl x x' (y :: l) (y :: l')
theorem Repl.at_ {x x' : It} {L L' : List It} (h : Repl x x' L L') : ∃ k, L[k]? = some x ∧ L' = L.set k x' := by
  induction h with
  | here => exact ⟨0, rfl, rfl⟩
  | there h ih => obtain ⟨k, h1, h2⟩ := ih; exact ⟨k + 1, by simpa using h1, by simp [h2]⟩
theorem Repl.mem {x x' : It} {L L' : List It} (h : Repl x x' L L') : x ∈ L := by
  obtain ⟨k, h1, _⟩ := h.at_; exact List.mem_of_getElem? h1
/-- x stands in L; f puts another in its place. -/
inductive Spot (x : It) : List It → (It → List It) → Prop where
  | here {l : List It} : Spot x (x :: l) (fun x' => x' :: l)
  | there {y : It} {l : List It} {f : It → List It} (h : Spot x l f) : Spot x (y :: l) (fun x' => y :: f x')
theorem Spot.repl {x : It} {L : List It} {f : It → List It} (h : Spot x L f) (x' : It) : Repl x x' L (f x') := by
  induction h with
  | here => exact .here
  | there h ih => exact .there ih
theorem Spot.self {x : It} {L : List It} {f : It → List It} (h : Spot x L f) : f x = L := by
  induction h with
  | here => rfl
  | there h ih => simp [ih]
theorem Spot.mem {x : It} {L : List It} {f : It → List It} (h : Spot x L f) : x ∈ L := (h.repl x).mem
theorem Mem.turn {w0 W W' : World} {L L' : List It} {x x' : It} (h : Mem w0 W L) (hk : Repl x x' L L') (hg : W.grownBy W' x.at) (hx' : x'.ok w0.heap.size W')
    (hat : ∀ b, x'.at = some b → x.at = some b ∨ W.heap.size ≤ b) : Mem w0 W' L' := by
  obtain ⟨k, h1, rfl⟩ := hk.at_
  exact h.turnAt k x x' h1 hg hx' hat

theorem Mem.blk {w0 W : World} {L : List It} (h : Mem w0 W L) {b : Nat} {cs : Array Value} {t : TypeId} (hk : It.blk b cs t ∈ L) : W.heap[b]? = some (.cells cs t (0, 0)) :=
  (h.ok _ hk).2
theorem Mem.row {w0 W : World} {L : List It} (h : Mem w0 W L) {v : Value} {e : TypeId} {size n : Nat} {xs : List Value} (hk : It.row v e size n xs ∈ L) : W.ownsRow w0.heap.size e size v n xs :=
  h.ok _ hk

theorem Mem.newObj {w0 W : World} {L : List It} (h : Mem w0 W L) (o : Obj) : Mem w0 (W.alloc o) (.obj W.heap.size o :: L) := by
  have hj := Mem.join (W' := W.alloc o) (L' := [.obj W.heap.size o]) h
    ⟨(Below.refl _ _).alloc (Nat.le_refl _) _, by simp only [List.mem_singleton]; rintro x rfl; exact ⟨Nat.le_refl _, heap_alloc_new W _⟩, by simp⟩
  simpa using hj
theorem Mem.obj {w0 W : World} {L : List It} (h : Mem w0 W L) {b : Nat} {o : Obj} (hk : It.obj b o ∈ L) : W.heap[b]? = some o := (h.ok _ hk).2

theorem grownBy_setRow (W : World) (b : Nat) (cs : Array Value) : W.grownBy (W.setRow b cs) (some b) :=
  ⟨rfl, rfl, rfl, by simp, fun k _ hk => setRow_other W b k cs (fun e => hk (by rw [e]))⟩

theorem Mem.put {w0 W : World} {L L' : List It} (h : Mem w0 W L) {b : Nat} {cs cs' : Array Value} {t : TypeId} (hk : Repl (.blk b cs t) (.blk b cs' t) L L') :
    Mem w0 (W.setRow b cs') L' :=
  h.turn hk (grownBy_setRow W b cs') ⟨(h.ok _ hk.mem).1, setRow_heap W b cs cs' t (0, 0) (h.blk hk.mem)⟩ (fun b' hb' => .inl hb')

/-! ### Reading -/
/-- 'p' points at the cells cs. -/
def At (w : World) (p : Value) (cs : List Value) : Prop := ∃ b o, p = .pointer (some ⟨b, o, none⟩) ∧ w.rangeAt b o cs

/-- 'v' is a slice whose elements, each laid out by 'enc' in 'size' cells, are l. -/
def RdL {α : Type} (enc : α → List Value) (size : Nat) (w : World) (v : Value) (l : List α) : Prop :=
  ∃ A c, v = .slice A l.length c ∧ l.length ≤ c ∧ c ≤ maxLen ∧ (l ≠ [] → ∃ b o, A = some ⟨b, o, none⟩ ∧ w.rangeAt b o (l.flatMap enc))

theorem rangeAt_below {w w' : World} (hb : Below w.heap.size w w') {b o : Nat} {cs : List Value} (h : w.rangeAt b o cs) : w'.rangeAt b o cs := by
  intro j v hv
  have := h j v hv
  rw [hb.cell (World.block_lt_of_cell? w _ this)]
  exact this
theorem RdL.below {α : Type} {enc : α → List Value} {size : Nat} {w w' : World} {v : Value} {l : List α} (h : RdL enc size w v l) (hb : Below w.heap.size w w') : RdL enc size w' v l := by
  obtain ⟨A, c, h1, h2, h3, h4⟩ := h
  refine ⟨A, c, h1, h2, h3, fun hne => ?_⟩
  obtain ⟨b, o, e, hr⟩ := h4 hne
  exact ⟨b, o, e, rangeAt_below hb hr⟩
theorem RdL.mem {α : Type} {enc : α → List Value} {size : Nat} {w W : World} {v : Value} {l : List α} {L : List It} (h : RdL enc size w v l) (hm : Mem w W L) : RdL enc size W v l := h.below hm.below

theorem flatMap_length {α : Type} {enc : α → List Value} {size : Nat} (he : ∀ x, (enc x).length = size) (l : List α) : (l.flatMap enc).length = l.length * size := by
  induction l with
  | nil => simp
  | cons x l ih => simp only [List.flatMap_cons, List.length_append, he, ih, List.length_cons, Nat.add_mul]; omega
theorem flatMap_at {α : Type} {enc : α → List Value} {size : Nat} (he : ∀ x, (enc x).length = size) (l : List α) (i : Nat) (x : α) (hx : l[i]? = some x) (j : Nat) (hj : j < size) :
    (l.flatMap enc)[i * size + j]? = (enc x)[j]? := by
  induction l generalizing i with
  | nil => simp at hx
  | cons y l ih =>
    cases i with
    | zero =>
      simp only [List.getElem?_cons_zero, Option.some.injEq] at hx
      subst hx
      simp only [List.flatMap_cons, Nat.zero_mul, Nat.zero_add]
      rw [List.getElem?_append_left (by rw [he]; exact hj)]
    | succ i =>
      simp only [List.getElem?_cons_succ] at hx
      simp only [List.flatMap_cons]
      rw [List.getElem?_append_right (by rw [he, Nat.add_mul]; omega), he, ← ih i hx]
      congr 1
      rw [Nat.add_mul]; omega
theorem flatMap_take {α : Type} {enc : α → List Value} {size : Nat} (he : ∀ x, (enc x).length = size) (l : List α) (k : Nat) : (l.take k).flatMap enc = (l.flatMap enc).take (k * size) := by
  induction l generalizing k with
  | nil => simp
  | cons x l ih =>
    cases k with
    | zero => simp
    | succ k =>
      simp only [List.take_succ_cons, List.flatMap_cons]
      have e1 : (enc x).take ((k + 1) * size) = enc x := List.take_of_length_le (by rw [he, Nat.add_mul]; omega)
      rw [ih, List.take_append, he, e1]
      congr 2
      rw [Nat.add_mul]; omega
theorem flatMap_drop {α : Type} {enc : α → List Value} {size : Nat} (he : ∀ x, (enc x).length = size) (l : List α) (k : Nat) : (l.drop k).flatMap enc = (l.flatMap enc).drop (k * size) := by
  induction l generalizing k with
  | nil => simp
  | cons x l ih =>
    cases k with
    | zero => simp
    | succ k =>
      simp only [List.drop_succ_cons, List.flatMap_cons]
      have e1 : (enc x).drop ((k + 1) * size) = [] := List.drop_of_length_le (by rw [he, Nat.add_mul]; omega)
      rw [ih, List.drop_append, he, e1, List.nil_append]
      congr 1
      rw [Nat.add_mul]; omega

theorem rangeAt_take {w : World} {b o : Nat} {cs : List Value} (h : w.rangeAt b o cs) (k : Nat) : w.rangeAt b o (cs.take k) := by
  intro j v hv
  rw [List.getElem?_take] at hv
  split at hv
  · exact h j v hv
  · cases hv
theorem rangeAt_drop {w : World} {b o : Nat} {cs : List Value} (h : w.rangeAt b o cs) (k : Nat) : w.rangeAt b (o + k) (cs.drop k) := by
  intro j v hv
  rw [List.getElem?_drop] at hv
  rw [Nat.add_assoc]
  exact h (k + j) v hv

/-- An element of a slice that is read. -/
theorem RdL.elem {α : Type} {enc : α → List Value} {size : Nat} (he : ∀ x, (enc x).length = size) {w : World} {v : Value} {l : List α} (h : RdL enc size w v l) (i : Nat) (x : α) (hx : l[i]? = some x) :
    ∃ b o c, v = .slice (some ⟨b, o, none⟩) l.length c ∧ w.rangeAt b (o + i * size) (enc x) := by
  obtain ⟨A, c, h1, h2, h3, h4⟩ := h
  obtain ⟨b, o, rfl, hr⟩ := h4 (fun e => by simp [e] at hx)
  refine ⟨b, o, c, h1, fun j u hu => ?_⟩
  have hj : j < size := by rw [← he x]; exact (List.getElem?_eq_some_iff.1 hu).1
  have := hr (i * size + j) u (by rw [flatMap_at he l i x hx j hj]; exact hu)
  rw [← Nat.add_assoc] at this
  exact this

/-- What is owned can be read. -/
theorem RdL.own {α : Type} {enc : α → List Value} {size : Nat} (hs : 0 < size) (he : ∀ x, (enc x).length = size) {w : World} {B : Nat} {e : TypeId} {v : Value} {l : List α} {n : Nat} (h : w.ownsRow B e size v n (l.flatMap enc)) :
    n = l.length ∧ RdL enc size w v l := by
  have hl : l.length = n := by
    have h1 := h.1
    rw [flatMap_length he] at h1
    exact Nat.eq_of_mul_eq_mul_right hs h1
  refine ⟨hl.symm, ?_⟩
  subst hl
  rcases h.2 with ⟨rfl, h0⟩ | ⟨g, cap, cur, rfl, _, hh, hc, hcm, _⟩
  · exact ⟨none, 0, by rw [h0], by omega, by simp [maxLen], fun hne => absurd (List.eq_nil_of_length_eq_zero h0) hne⟩
  · refine ⟨some ⟨g, 0, none⟩, cap, rfl, hc, hcm, fun _ => ⟨g, 0, rfl, fun j u hu => ?_⟩⟩
    have := h.cells (g := g) rfl j u hu
    rw [Addr.add_mid] at this
    exact this

end Go.Proofs.Ythdekionepfmdaa
