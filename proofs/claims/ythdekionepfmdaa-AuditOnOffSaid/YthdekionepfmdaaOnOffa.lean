/- A part of the proof of auditOnOff_proved: Mem, Law, LawB, Ty, Pure, Eq, Mix, Bits, Ret, Cia, Cib, Rng, Cic, Rfa, Rfb, Cid, Cie, Cif, Dga, Dgb. No condition but those that each theorem states. -/
import Derived.BigQuiet
import Derived.Deep.DeepMust
import Derived.Deep.LoopGhost
import Derived.Deep.MidRow
import Derived.Deep.QuietTactic
import Derived.Deep.RegionWith
import Derived.KernelRfl
import Derived.Laws.BitsAllLaws
import Derived.Laws.BytesString
import Derived.Laws.Cover3
import Derived.Laws.StructEq
import Derived.Lib.AppendZeros
import Derived.LoopIn
import Derived.LoopNIn
import Derived.Maps.AppendAt
import Derived.OrdersHeld
import Derived.OwnWalkIn
import Derived.RangeFuncCalls
import Derived.RangeFuncLeaves
import Derived.RangeFuncOwn
import Derived.Shelf.Abstract
import Derived.TacticsInMore
import Derived.Test.YthdekionepfmdaaProg
import Derived.WalkKit
import Derived.WalkLawsBesides
import Derived.WalkSpells
set_option linter.unusedVariables false
set_option linter.unusedSimpArgs false
namespace Go.Proofs.Ythdekionepfmdaa
section
set_option linter.unusedVariables false
set_option linter.unusedSimpArgs false
open Go.RowKit
inductive It where
  | blk (b : Nat) (cs : Array Value) (t : TypeId)
  | row (v : Value) (e : TypeId) (size n : Nat) (xs : List Value)
  | obj (b : Nat) (o : Obj)
def It.at : It → Option Nat
  | .blk b _ _ => some b
  | .row v _ _ _ _ => v.ownBlock
  | .obj b _ => some b
def It.ok (B : Nat) (W : World) : It → Prop
  | .blk b cs t => B ≤ b ∧ W.heap[b]? = some (.cells cs t (0, 0))
  | .row v e size n xs => W.ownsRow B e size v n xs
  | .obj b o => B ≤ b ∧ W.heap[b]? = some o
def Apart (x y : It) : Prop := ∀ b, x.at = some b → y.at = some b → False
structure Mem (w0 W : World) (L : List It) : Prop where
  below : Below w0.heap.size w0 W
  ok : ∀ x ∈ L, x.ok w0.heap.size W
  apart : L.Pairwise Apart
theorem It.ok.range {B : Nat} {W : World} {x : It} (h : x.ok B W) : ∀ b, x.at = some b → B ≤ b ∧ b < W.heap.size := by
  intro b hb
  cases x with
  | blk b' cs t =>
    simp only [It.at, Option.some.injEq] at hb
    subst hb
    exact ⟨h.1, (Array.getElem?_eq_some_iff.1 h.2).1⟩
  | row v e size n xs => exact World.ownsRow.lt h b hb
  | obj b' o =>
    simp only [It.at, Option.some.injEq] at hb
    subst hb
    exact ⟨h.1, (Array.getElem?_eq_some_iff.1 h.2).1⟩
theorem It.ok.kept {B : Nat} {W W' : World} {x : It} (h : x.ok B W) {row : Option Nat} (hg : W.grownBy W' row) (hne : ∀ b, x.at = some b → row ≠ some b) : x.ok B W' := by
  cases x with
  | blk b cs t =>
    refine ⟨h.1, ?_⟩
    rw [hg.block b (Array.getElem?_eq_some_iff.1 h.2).1 (fun e => hne b rfl e.symm)]
    exact h.2
  | row v e size n xs =>
    refine World.ownsRow.kept h hg ?_
    cases hv : v.ownBlock with
    | none => exact .inl rfl
    | some b => exact .inr (fun e => hne b hv e.symm)
  | obj b o =>
    refine ⟨h.1, ?_⟩
    rw [hg.block b (Array.getElem?_eq_some_iff.1 h.2).1 (fun e => hne b rfl e.symm)]
    exact h.2
theorem It.ok.mono {B B' : Nat} {W : World} {x : It} (h : x.ok B W) (hB : B' ≤ B) : x.ok B' W := by
  cases x with
  | blk b cs t => exact ⟨Nat.le_trans hB h.1, h.2⟩
  | row v e size n xs =>
    refine ⟨h.1, ?_⟩
    rcases h.2 with hn | ⟨g, cap, cur, hv, hb, r⟩
    · exact .inl hn
    · exact .inr ⟨g, cap, cur, hv, Nat.le_trans hB hb, r⟩
  | obj b o => exact ⟨Nat.le_trans hB h.1, h.2⟩
theorem Mem.start (w : World) : Mem w w [] := ⟨Below.refl _ _, by simp, List.Pairwise.nil⟩
theorem grownBy_of_below {w w1 : World} (h : Below w.heap.size w w1) (row : Option Nat) : w.grownBy w1 row := ⟨h.os, h.tape, h.output, h.size, fun i hi _ => h.block i hi⟩
theorem Mem.size {w0 W : World} {L : List It} (h : Mem w0 W L) : w0.heap.size ≤ W.heap.size := h.below.size
theorem Mem.keep {w0 W W' : World} {L : List It} (h : Mem w0 W L) (hb : Below W.heap.size W W') : Mem w0 W' L :=
  ⟨h.below.trans (hb.mono h.size), fun x hx => (h.ok x hx).kept (grownBy_of_below hb none) (by simp), h.apart⟩
theorem Mem.drew {w0 W : World} {L : List It} (h : Mem w0 W L) : Mem w0 W.drew L := h.keep (Below.refl _ _).drew
theorem Mem.join {w0 W W' : World} {L L' : List It} (h : Mem w0 W L) (h' : Mem W W' L') : Mem w0 W' (L' ++ L) := by
  refine ⟨(h.keep h'.below).below, fun x hx => ?_, ?_⟩
  · rcases List.mem_append.1 hx with hx | hx
    · exact (h'.ok x hx).mono h.size
    · exact (h.keep h'.below).ok x hx
  · refine List.pairwise_append.2 ⟨h'.apart, h.apart, fun x hx y hy b hb hb' => ?_⟩
    have h1 := ((h'.ok x hx).range b hb).1
    have h2 := ((h.ok y hy).range b hb').2
    omega
theorem Mem.sub {w0 W : World} {L L' : List It} (h : Mem w0 W L) (hs : L'.Sublist L) : Mem w0 W L' :=
  ⟨h.below, fun x hx => h.ok x (hs.subset hx), h.apart.sublist hs⟩
theorem Apart.symm {x y : It} (h : Apart x y) : Apart y x := fun b h1 h2 => h b h2 h1
theorem Mem.perm {w0 W : World} {L L' : List It} (h : Mem w0 W L) (hp : L.Perm L') : Mem w0 W L' :=
  ⟨h.below, fun x hx => h.ok x (hp.mem_iff.2 hx), (hp.pairwise_iff (fun h => h.symm)).1 h.apart⟩
theorem Mem.base {w0 W : World} {L : List It} (h : Mem w0 W L) : Mem w0 W [] := h.sub (List.nil_sublist _)
theorem Mem.tail {w0 W : World} {x : It} {L : List It} (h : Mem w0 W (x :: L)) : Mem w0 W L := h.sub (List.sublist_cons_self _ _)
theorem Mem.new {w0 W : World} {L : List It} (h : Mem w0 W L) (cs : Array Value) (t : TypeId) : Mem w0 (W.alloc (.cells cs t)) (.blk W.heap.size cs t :: L) := by
  have hj := Mem.join (W' := W.alloc (.cells cs t)) (L' := [.blk W.heap.size cs t]) h
    ⟨(Below.refl _ _).alloc (Nat.le_refl _) _, by simp only [List.mem_singleton]; rintro x rfl; exact ⟨Nat.le_refl _, heap_alloc_new W _⟩, by simp⟩
  simpa using hj
theorem Mem.turnAt {w0 W W' : World} {L : List It} (h : Mem w0 W L) (k : Nat) (x x' : It) (hk : L[k]? = some x) (hg : W.grownBy W' x.at) (hx' : x'.ok w0.heap.size W')
    (hat : ∀ b, x'.at = some b → x.at = some b ∨ W.heap.size ≤ b) : Mem w0 W' (L.set k x') := by
  have hklt : k < L.length := (List.getElem?_eq_some_iff.1 hk).1
  have hxL : x ∈ L := List.mem_of_getElem? hk
  have hap : ∀ j y, j ≠ k → L[j]? = some y → Apart x y := by
    intro j y hj hy
    have hjlt : j < L.length := (List.getElem?_eq_some_iff.1 hy).1
    have hP := List.pairwise_iff_getElem.1 h.apart
    have e1 : L[k] = x := (List.getElem?_eq_some_iff.1 hk).2
    have e2 : L[j] = y := (List.getElem?_eq_some_iff.1 hy).2
    rcases Nat.lt_or_ge j k with hlt | hge
    · have := hP j k hjlt hklt hlt
      rw [e1, e2] at this
      exact this.symm
    · have := hP k j hklt hjlt (by omega)
      rw [e1, e2] at this
      exact this
  have hother : ∀ j y, j ≠ k → L[j]? = some y → y.ok w0.heap.size W' := by
    intro j y hj hy
    refine (h.ok y (List.mem_of_getElem? hy)).kept hg (fun b hb e => ?_)
    exact hap j y hj hy b e hb
  refine ⟨?_, ?_, ?_⟩
  · refine Below.grown h.below hg h.size (fun b hb => ?_)
    exact ((h.ok x hxL).range b hb).1
  · intro y hy
    obtain ⟨j, hj⟩ := List.mem_iff_getElem?.1 hy
    rw [List.getElem?_set] at hj
    split at hj
    · rename_i e
      simp only [hklt, if_true, Option.some.injEq] at hj
      subst hj; exact hx'
    · rename_i e
      exact hother j y (fun e' => e e'.symm) hj
  · rw [List.pairwise_iff_getElem]
    intro i j hi hj hij
    have hil : i < L.length := by simpa using hi
    have hjl : j < L.length := by simpa using hj
    have hP := List.pairwise_iff_getElem.1 h.apart
    have new : ∀ m y, m ≠ k → L[m]? = some y → Apart x' y := by
      intro m y hm hy b hb hb'
      rcases hat b hb with hb1 | hb1
      · exact hap m y hm hy b hb1 hb'
      · have := ((h.ok y (List.mem_of_getElem? hy)).range b hb').2
        omega
    rw [List.getElem_set, List.getElem_set]
    by_cases e1 : k = i
    · subst e1
      rw [if_pos rfl, if_neg (by omega)]
      exact new j _ (by omega) (List.getElem?_eq_getElem hjl)
    · rw [if_neg e1]
      by_cases e2 : k = j
      · subst e2
        rw [if_pos rfl]
        exact (new i _ (by omega) (List.getElem?_eq_getElem hil)).symm
      · rw [if_neg e2]
        exact hP i j hil hjl hij
inductive Repl (x x' : It) : List It → List It → Prop where
  | here {l : List It} : Repl x x' (x :: l) (x' :: l)
  | there {y : It} {l l' : List It} (h : Repl x x' l l') : Repl x x' (y :: l) (y :: l')
theorem Repl.at_ {x x' : It} {L L' : List It} (h : Repl x x' L L') : ∃ k, L[k]? = some x ∧ L' = L.set k x' := by
  induction h with
  | here => exact ⟨0, rfl, rfl⟩
  | there h ih => obtain ⟨k, h1, h2⟩ := ih; exact ⟨k + 1, by simpa using h1, by simp [h2]⟩
theorem Repl.mem {x x' : It} {L L' : List It} (h : Repl x x' L L') : x ∈ L := by
  obtain ⟨k, h1, _⟩ := h.at_; exact List.mem_of_getElem? h1
inductive Spot (x : It) : List It → (It → List It) → Prop where
  | here {l : List It} : Spot x (x :: l) (fun x' => x' :: l)
  | there {y : It} {l : List It} {f : It → List It} (h : Spot x l f) : Spot x (y :: l) (fun x' => y :: f x')
theorem Spot.repl {x : It} {L : List It} {f : It → List It} (h : Spot x L f) (x' : It) : Repl x x' L (f x') := by
  induction h with
  | here => exact .here
  | there h ih => exact .there ih
theorem Spot.self {x : It} {L : List It} {f : It → List It} (h : Spot x L f) : f x = L := by
  induction h with
  | here => rfl
  | there h ih => simp [ih]
theorem Spot.mem {x : It} {L : List It} {f : It → List It} (h : Spot x L f) : x ∈ L := (h.repl x).mem
theorem Mem.turn {w0 W W' : World} {L L' : List It} {x x' : It} (h : Mem w0 W L) (hk : Repl x x' L L') (hg : W.grownBy W' x.at) (hx' : x'.ok w0.heap.size W')
    (hat : ∀ b, x'.at = some b → x.at = some b ∨ W.heap.size ≤ b) : Mem w0 W' L' := by
  obtain ⟨k, h1, rfl⟩ := hk.at_
  exact h.turnAt k x x' h1 hg hx' hat
theorem Mem.blk {w0 W : World} {L : List It} (h : Mem w0 W L) {b : Nat} {cs : Array Value} {t : TypeId} (hk : It.blk b cs t ∈ L) : W.heap[b]? = some (.cells cs t (0, 0)) :=
  (h.ok _ hk).2
theorem Mem.row {w0 W : World} {L : List It} (h : Mem w0 W L) {v : Value} {e : TypeId} {size n : Nat} {xs : List Value} (hk : It.row v e size n xs ∈ L) : W.ownsRow w0.heap.size e size v n xs :=
  h.ok _ hk
theorem Mem.newObj {w0 W : World} {L : List It} (h : Mem w0 W L) (o : Obj) : Mem w0 (W.alloc o) (.obj W.heap.size o :: L) := by
  have hj := Mem.join (W' := W.alloc o) (L' := [.obj W.heap.size o]) h
    ⟨(Below.refl _ _).alloc (Nat.le_refl _) _, by simp only [List.mem_singleton]; rintro x rfl; exact ⟨Nat.le_refl _, heap_alloc_new W _⟩, by simp⟩
  simpa using hj
theorem Mem.obj {w0 W : World} {L : List It} (h : Mem w0 W L) {b : Nat} {o : Obj} (hk : It.obj b o ∈ L) : W.heap[b]? = some o := (h.ok _ hk).2
theorem grownBy_setRow (W : World) (b : Nat) (cs : Array Value) : W.grownBy (W.setRow b cs) (some b) :=
  ⟨rfl, rfl, rfl, by simp, fun k _ hk => setRow_other W b k cs (fun e => hk (by rw [e]))⟩
theorem Mem.put {w0 W : World} {L L' : List It} (h : Mem w0 W L) {b : Nat} {cs cs' : Array Value} {t : TypeId} (hk : Repl (.blk b cs t) (.blk b cs' t) L L') :
    Mem w0 (W.setRow b cs') L' :=
  h.turn hk (grownBy_setRow W b cs') ⟨(h.ok _ hk.mem).1, setRow_heap W b cs cs' t (0, 0) (h.blk hk.mem)⟩ (fun b' hb' => .inl hb')
def At (w : World) (p : Value) (cs : List Value) : Prop := ∃ b o, p = .pointer (some ⟨b, o, none⟩) ∧ w.rangeAt b o cs
def RdL {α : Type} (enc : α → List Value) (size : Nat) (w : World) (v : Value) (l : List α) : Prop :=
  ∃ A c, v = .slice A l.length c ∧ l.length ≤ c ∧ c ≤ maxLen ∧ (l ≠ [] → ∃ b o, A = some ⟨b, o, none⟩ ∧ w.rangeAt b o (l.flatMap enc))
theorem rangeAt_below {w w' : World} (hb : Below w.heap.size w w') {b o : Nat} {cs : List Value} (h : w.rangeAt b o cs) : w'.rangeAt b o cs := by
  intro j v hv
  have := h j v hv
  rw [hb.cell (World.block_lt_of_cell? w _ this)]
  exact this
theorem RdL.below {α : Type} {enc : α → List Value} {size : Nat} {w w' : World} {v : Value} {l : List α} (h : RdL enc size w v l) (hb : Below w.heap.size w w') : RdL enc size w' v l := by
  obtain ⟨A, c, h1, h2, h3, h4⟩ := h
  refine ⟨A, c, h1, h2, h3, fun hne => ?_⟩
  obtain ⟨b, o, e, hr⟩ := h4 hne
  exact ⟨b, o, e, rangeAt_below hb hr⟩
theorem RdL.mem {α : Type} {enc : α → List Value} {size : Nat} {w W : World} {v : Value} {l : List α} {L : List It} (h : RdL enc size w v l) (hm : Mem w W L) : RdL enc size W v l := h.below hm.below
theorem flatMap_length {α : Type} {enc : α → List Value} {size : Nat} (he : ∀ x, (enc x).length = size) (l : List α) : (l.flatMap enc).length = l.length * size := by
  induction l with
  | nil => simp
  | cons x l ih => simp only [List.flatMap_cons, List.length_append, he, ih, List.length_cons, Nat.add_mul]; omega
theorem flatMap_at {α : Type} {enc : α → List Value} {size : Nat} (he : ∀ x, (enc x).length = size) (l : List α) (i : Nat) (x : α) (hx : l[i]? = some x) (j : Nat) (hj : j < size) :
    (l.flatMap enc)[i * size + j]? = (enc x)[j]? := by
  induction l generalizing i with
  | nil => simp at hx
  | cons y l ih =>
    cases i with
    | zero =>
      simp only [List.getElem?_cons_zero, Option.some.injEq] at hx
      subst hx
      simp only [List.flatMap_cons, Nat.zero_mul, Nat.zero_add]
      rw [List.getElem?_append_left (by rw [he]; exact hj)]
    | succ i =>
      simp only [List.getElem?_cons_succ] at hx
      simp only [List.flatMap_cons]
      rw [List.getElem?_append_right (by rw [he, Nat.add_mul]; omega), he, ← ih i hx]
      congr 1
      rw [Nat.add_mul]; omega
theorem flatMap_take {α : Type} {enc : α → List Value} {size : Nat} (he : ∀ x, (enc x).length = size) (l : List α) (k : Nat) : (l.take k).flatMap enc = (l.flatMap enc).take (k * size) := by
  induction l generalizing k with
  | nil => simp
  | cons x l ih =>
    cases k with
    | zero => simp
    | succ k =>
      simp only [List.take_succ_cons, List.flatMap_cons]
      have e1 : (enc x).take ((k + 1) * size) = enc x := List.take_of_length_le (by rw [he, Nat.add_mul]; omega)
      rw [ih, List.take_append, he, e1]
      congr 2
      rw [Nat.add_mul]; omega
theorem flatMap_drop {α : Type} {enc : α → List Value} {size : Nat} (he : ∀ x, (enc x).length = size) (l : List α) (k : Nat) : (l.drop k).flatMap enc = (l.flatMap enc).drop (k * size) := by
  induction l generalizing k with
  | nil => simp
  | cons x l ih =>
    cases k with
    | zero => simp
    | succ k =>
      simp only [List.drop_succ_cons, List.flatMap_cons]
      have e1 : (enc x).drop ((k + 1) * size) = [] := List.drop_of_length_le (by rw [he, Nat.add_mul]; omega)
      rw [ih, List.drop_append, he, e1, List.nil_append]
      congr 1
      rw [Nat.add_mul]; omega
theorem rangeAt_take {w : World} {b o : Nat} {cs : List Value} (h : w.rangeAt b o cs) (k : Nat) : w.rangeAt b o (cs.take k) := by
  intro j v hv
  rw [List.getElem?_take] at hv
  split at hv
  · exact h j v hv
  · cases hv
theorem rangeAt_drop {w : World} {b o : Nat} {cs : List Value} (h : w.rangeAt b o cs) (k : Nat) : w.rangeAt b (o + k) (cs.drop k) := by
  intro j v hv
  rw [List.getElem?_drop] at hv
  rw [Nat.add_assoc]
  exact h (k + j) v hv
theorem RdL.elem {α : Type} {enc : α → List Value} {size : Nat} (he : ∀ x, (enc x).length = size) {w : World} {v : Value} {l : List α} (h : RdL enc size w v l) (i : Nat) (x : α) (hx : l[i]? = some x) :
    ∃ b o c, v = .slice (some ⟨b, o, none⟩) l.length c ∧ w.rangeAt b (o + i * size) (enc x) := by
  obtain ⟨A, c, h1, h2, h3, h4⟩ := h
  obtain ⟨b, o, rfl, hr⟩ := h4 (fun e => by simp [e] at hx)
  refine ⟨b, o, c, h1, fun j u hu => ?_⟩
  have hj : j < size := by rw [← he x]; exact (List.getElem?_eq_some_iff.1 hu).1
  have := hr (i * size + j) u (by rw [flatMap_at he l i x hx j hj]; exact hu)
  rw [← Nat.add_assoc] at this
  exact this
theorem RdL.own {α : Type} {enc : α → List Value} {size : Nat} (hs : 0 < size) (he : ∀ x, (enc x).length = size) {w : World} {B : Nat} {e : TypeId} {v : Value} {l : List α} {n : Nat} (h : w.ownsRow B e size v n (l.flatMap enc)) :
    n = l.length ∧ RdL enc size w v l := by
  have hl : l.length = n := by
    have h1 := h.1
    rw [flatMap_length he] at h1
    exact Nat.eq_of_mul_eq_mul_right hs h1
  refine ⟨hl.symm, ?_⟩
  subst hl
  rcases h.2 with ⟨rfl, h0⟩ | ⟨g, cap, cur, rfl, _, hh, hc, hcm, _⟩
  · exact ⟨none, 0, by rw [h0], by omega, by simp [maxLen], fun hne => absurd (List.eq_nil_of_length_eq_zero h0) hne⟩
  · refine ⟨some ⟨g, 0, none⟩, cap, rfl, hc, hcm, fun _ => ⟨g, 0, rfl, fun j u hu => ?_⟩⟩
    have := h.cells (g := g) rfl j u hu
    rw [Addr.add_mid] at this
    exact this
end
section
set_option linter.unusedVariables false
set_option linter.unusedSimpArgs false
open Go.RowKit
section
variable {P : Program} {ops : Array Oper} {rest : List Oper} {a : Act} {Q : Exit → Act → World → Prop} {w0 W : World} {L : List It} {dst : Option Tmp} {tt : TypeId} {ps : String} {af : Array Edge}
theorem s_ {op : Op} {gd : Option (Nat × Bool)} (d : Nat) (h : wpList P ops Q (Oper.mk (some d) op tt ps af gd :: rest) a W) : wpList P ops Q (Oper.mk (some d) op tt ps af gd :: rest) a W := h
theorem gd_ {op : Op} (g : Nat × Bool) (h : wpList P ops Q (Oper.mk dst op tt ps af (some g) :: rest) a W) : wpList P ops Q (Oper.mk dst op tt ps af (some g) :: rest) a W := h
theorem ld_ {x : Operand} {gd : Option (Nat × Bool)} (t : TypeId) (h : wpList P ops Q (Oper.mk dst (.load t x) tt ps af gd :: rest) a W) : wpList P ops Q (Oper.mk dst (.load t x) tt ps af gd :: rest) a W := h
theorem st_ {x y : Operand} {gd : Option (Nat × Bool)} (t : TypeId) (h : wpList P ops Q (Oper.mk dst (.store t x y) tt ps af gd :: rest) a W) : wpList P ops Q (Oper.mk dst (.store t x y) tt ps af gd :: rest) a W := h
end
section
variable {α : Type} {a b c d e f g h i j k l m n o p q : α} {L : List α}
theorem m0 : a ∈ a :: L := List.mem_cons_self ..
theorem m1 : a ∈ b :: a :: L := List.mem_cons_of_mem _ m0
theorem m2 : a ∈ b :: c :: a :: L := List.mem_cons_of_mem _ m1
theorem m3 : a ∈ b :: c :: d :: a :: L := List.mem_cons_of_mem _ m2
theorem m4 : a ∈ b :: c :: d :: e :: a :: L := List.mem_cons_of_mem _ m3
end
section
variable {P : Program} {ops : Array Oper} {rest : List Oper} {a : Act} {Q : Exit → Act → World → Prop} {w0 W : World} {L : List It} {dst : Option Tmp} {tt : TypeId} {ps : String} {af : Array Edge}
theorem wl_guard {op : Op} {g : Nat × Bool} (hw : Region.wanted (Oper.mk dst op tt ps af (some g)) (yielded ops a.tmps) = true) (h : wpList P ops Q (Oper.mk dst op tt ps af none :: rest) a W) : wpList P ops Q (Oper.mk dst op tt ps af (some g) :: rest) a W := by
  unfold wpList at h ⊢
  rw [if_pos hw]
  rw [if_pos (by rfl)] at h
  exact h
theorem wl_alloc (ty : TypeId) (z : Value) (cs : Array Value) (hz : ∀ w, (zeroValue ty).run P w = .ok z w) (hcs : z.cells = cs) (HM : Mem w0 W L)
    (h : ∀ b W', Mem w0 W' (.blk b cs ty :: L) → wpList P ops Q rest (a.put dst (.pointer (some ⟨b, 0, none⟩))) W') :
    wpList P ops Q (Oper.mk dst (.alloc ty) tt ps af none :: rest) a W := by
  refine wpList_plain rfl fun K hK => ?_
  have h1 := h W.heap.size (W.alloc (.cells cs ty)) (HM.new cs ty)
  unfold Oper.wp execOp
  simp only [Instr.alloc, Sem.run_bind, Sem.run_pure, Result.andThen_ok, hz, newVar, newRow, run_newObj, hcs]
  exact hK _ _ h1
theorem wl_box (ty : TypeId) (x : Operand) (v : Value) (cs : Array Value) (hx : a.eval x = v) (hcs : v.cells = cs) (HM : Mem w0 W L)
    (h : ∀ b W', Mem w0 W' (.blk b cs ty :: L) → wpList P ops Q rest (a.put dst (.pointer (some ⟨b, 0, none⟩))) W') :
    wpList P ops Q (Oper.mk dst (.box ty x) tt ps af none :: rest) a W := by
  refine wpList_plain rfl fun K hK => ?_
  have h1 := h W.heap.size (W.alloc (.cells cs ty)) (HM.new cs ty)
  unfold Oper.wp execOp
  simp only [Instr.box, Sem.run_bind, Sem.run_pure, Result.andThen_ok, newVar, newRow, run_newObj, hx, hcs]
  exact hK _ _ h1
theorem wl_buildSlice (t : TypeId) (len : Nat) (parts : Array (Nat × Operand)) (e : TypeId) (size : Nat) (z : Value) (cs : Array Value) (ht : P.underlying t = some (.slice e)) (hs : ∀ w, (sizeOf e).run P w = .ok size w)
    (hz : ∀ w, (zeroValue e).run P w = .ok z w) (hlen : 0 < len * size ∧ len * size ≤ 2 ^ 24)
    (hf : Instr.fill (fun i => some (i * size, size)) ((Array.range (len * size)).map (z.cells[· % z.cells.size]!)) (parts.map fun (i, x) => (i, a.eval x)).toList = some cs) (HM : Mem w0 W L)
    (h : ∀ b W', Mem w0 W' (.blk b cs e :: L) → wpList P ops Q rest (a.put dst (.slice (some ⟨b, 0, none⟩) len len)) W') :
    wpList P ops Q (Oper.mk dst (.buildSlice t len parts) tt ps af none :: rest) a W := by
  refine wpList_plain rfl fun K hK => ?_
  have h1 := h W.heap.size (W.alloc (.cells cs e)) (HM.new cs e)
  unfold Oper.wp execOp
  simp only [Instr.buildSlice, Sem.run_bind, Sem.run_pure, Result.andThen_ok, run_underlying ht, hs, if_neg (show ¬ len * size > 2 ^ 24 by omega), if_neg (show ¬ len * size = 0 by omega), hz, hf, newRow, run_newObj]
  exact hK _ _ h1
theorem run_isAgg {ty : TypeId} {d : TypeDesc} (hu : P.underlying ty = some d) (w : World) : (isAgg ty).run P w = .ok d.isRow w := by
  unfold isAgg
  rw [Sem.run_bind, run_underlying hu w]
  cases d <;> rfl
theorem run_loadVar_cell {ty : TypeId} {d : TypeDesc} (hu : P.underlying ty = some d) (hd : d.isRow = false) {w : World} {ad : Addr} {v : Value} (hc : w.cell? ad = some v) : (loadVar ty ad).run P w = .ok v w := by
  simp [loadVar, Sem.run_bind, run_isAgg hu w, hd, hc]
theorem wl_load_at (ty : TypeId) (x : Operand) (p : Value) (cs : List Value) (d : TypeDesc) (hx : a.eval x = p) (hp : At W p cs) (hu : P.underlying ty = some d) (hd : d.isRow = true) (hi : (P.info? ty).map (·.size) = some cs.length)
    (h : wpList P ops Q rest (a.put dst (.agg cs.toArray)) W) : wpList P ops Q (Oper.mk dst (.load ty x) tt ps af none :: rest) a W := by
  obtain ⟨b, o, rfl, hr⟩ := hp
  exact wpList_load_mid rfl ty x rfl b o hx cs d hr hu hd hi h
theorem wl_load_at1 (ty : TypeId) (x : Operand) (p : Value) (v : Value) (d : TypeDesc) (hx : a.eval x = p) (hp : At W p [v]) (hu : P.underlying ty = some d) (hd : d.isRow = false)
    (h : wpList P ops Q rest (a.put dst v) W) : wpList P ops Q (Oper.mk dst (.load ty x) tt ps af none :: rest) a W := by
  obtain ⟨b, o, rfl, hr⟩ := hp
  have hc : W.cell? ⟨b, o, none⟩ = some v := by simpa using hr 0 v rfl
  refine wpList_plain rfl fun K hK => ?_
  unfold Oper.wp execOp
  simp only [hx, Instr.loadAt, Instr.sureAddr, Sem.run_bind, Sem.run_pure, Result.andThen_ok, run_loadVar_cell hu hd hc]
  exact hK _ _ h
theorem wl_load_blk (ty : TypeId) (x : Operand) (b : Nat) (cs : Array Value) (t : TypeId) (d : TypeDesc) (hx : a.eval x = .pointer (some ⟨b, 0, none⟩)) (HM : Mem w0 W L) (hk : It.blk b cs t ∈ L)
    (hu : P.underlying ty = some d) (hd : d.isRow = true) (hi : (P.info? ty).map (·.size) = some cs.size)
    (h : wpList P ops Q rest (a.put dst (.agg cs)) W) : wpList P ops Q (Oper.mk dst (.load ty x) tt ps af none :: rest) a W :=
  wpList_load_row rfl ty x rfl b hx t cs (0, 0) d (HM.blk hk) hu (by cases d <;> first | rfl | (simp [TypeDesc.isRow] at hd)) hi h
theorem wl_load_heap (ty : TypeId) (x : Operand) (b : Nat) (cs : Array Value) (t : TypeId) (d : TypeDesc) (hx : a.eval x = .pointer (some ⟨b, 0, none⟩)) (hk : W.heap[b]? = some (.cells cs t (0, 0)))
    (hu : P.underlying ty = some d) (hd : d.isRow = true) (hi : (P.info? ty).map (·.size) = some cs.size)
    (h : wpList P ops Q rest (a.put dst (.agg cs)) W) : wpList P ops Q (Oper.mk dst (.load ty x) tt ps af none :: rest) a W :=
  wpList_load_row rfl ty x rfl b hx t cs (0, 0) d hk hu (by cases d <;> first | rfl | (simp [TypeDesc.isRow] at hd)) hi h
theorem wl_load_cell (ty : TypeId) (x : Operand) (b o : Nat) (cs : Array Value) (t : TypeId) (v : Value) (d : TypeDesc) (hx : a.eval x = .pointer (some ⟨b, o, none⟩)) (HM : Mem w0 W L) (hk : It.blk b cs t ∈ L)
    (hv : cs[o]? = some v) (hu : P.underlying ty = some d) (hd : d.isRow = false)
    (h : wpList P ops Q rest (a.put dst v) W) : wpList P ops Q (Oper.mk dst (.load ty x) tt ps af none :: rest) a W :=
  wl_load_at1 ty x _ v d hx ⟨b, o, rfl, fun j u hu' => by
    cases j with
    | zero => simp only [List.getElem?_cons_zero, Option.some.injEq] at hu'; subst hu'; rw [cell_of_row W b _ cs t _ (HM.blk hk)]; exact hv
    | succ j => simp at hu'⟩ hu hd h
theorem wl_load_sub (ty : TypeId) (x : Operand) (b o n : Nat) (cs cs' : Array Value) (t : TypeId) (d : TypeDesc) (hx : a.eval x = .pointer (some ⟨b, o, none⟩)) (HM : Mem w0 W L) (hk : It.blk b cs t ∈ L)
    (hu : P.underlying ty = some d) (hd : d.isRow = true) (hi : (P.info? ty).map (·.size) = some n) (hc : cs.extract o (o + n) = cs') (hn : cs'.size = n)
    (h : wpList P ops Q rest (a.put dst (.agg cs')) W) : wpList P ops Q (Oper.mk dst (.load ty x) tt ps af none :: rest) a W := by
  have hr := World.rangeAt_of_block (HM.blk hk) o n
  rw [hc] at hr
  refine wl_load_at ty x _ cs'.toList d hx ⟨b, o, rfl, hr⟩ hu hd (by rw [hi]; simp [hn]) ?_
  simpa using h
theorem wl_store_blk (ty : TypeId) (x y : Operand) (b : Nat) (cs cs' : Array Value) (t : TypeId) {L' : List It} (hx : a.eval x = .pointer (some ⟨b, 0, none⟩)) (hy : a.eval y = .agg cs') (HM : Mem w0 W L) (hk : Repl (.blk b cs t) (.blk b cs' t) L L')
    (hi : (P.info? ty).map (·.size) = some cs'.size) (hsz : cs.size = cs'.size) (h1 : cs'.all (·.oneCell') = true)
    (h : ∀ W', Mem w0 W' L' → wpList P ops Q rest (a.put dst undef) W') : wpList P ops Q (Oper.mk dst (.store ty x y) tt ps af none :: rest) a W :=
  wpList_store_row rfl ty x y rfl b cs' hx hy t cs (HM.blk hk.mem) hi hsz h1 (h _ (HM.put hk))
theorem setCell_eq_setRow' (W : World) (b o : Nat) (cs : Array Value) (t : TypeId) (v : Value) (h : W.heap[b]? = some (.cells cs t (0, 0))) : W.setCell ⟨b, o, none⟩ v = W.setRow b (cs.setIfInBounds o v) :=
  setCell_eq_setRow W b o cs t (0, 0) v h
theorem wl_store_cell (ty : TypeId) (x y : Operand) (b o : Nat) (cs cs' : Array Value) (t : TypeId) (v : Value) {L' : List It} (hx : a.eval x = .pointer (some ⟨b, o, none⟩)) (hy : a.eval y = v) (HM : Mem w0 W L) (hk : Repl (.blk b cs t) (.blk b cs' t) L L')
    (hi : (P.info? ty).map (·.size) = some 1) (h1 : v.oneCell' = true) (ho : o < cs.size) (hcs : cs.setIfInBounds o v = cs')
    (h : ∀ W', Mem w0 W' L' → wpList P ops Q rest (a.put dst undef) W') : wpList P ops Q (Oper.mk dst (.store ty x y) tt ps af none :: rest) a W := by
  subst hcs
  have hb := HM.blk hk.mem
  have hc : W.cell? ⟨b, o, none⟩ = some cs[o] := by rw [cell_of_row W b _ cs t _ hb]; simp [ho]
  have hf : W.frozen? ⟨b, o, none⟩ = false := frozen_of_row W b o cs t hb
  have hcell : v.cells = #[v] := by cases v <;> first | rfl | simp [Value.oneCell'] at h1
  refine wpList_plain rfl fun K hK => ?_
  have h2 := h _ (HM.put hk)
  rw [← setCell_eq_setRow' W b o cs t v hb] at h2
  cases hq : P.info? ty with
  | none => simp [hq] at hi
  | some i =>
    have hs : i.size = 1 := by simpa [hq] using hi
    have hrun := run_storeCells_cells (P := P) b o [v] 0 W (fun j hj => by simp at hj; subst hj; simp [hc]) (fun j hj => by simp at hj; subst hj; simpa using hf) (by simpa using h1)
    have hadd : (⟨b, o, none⟩ : Addr).add 0 = ⟨b, o, none⟩ := rfl
    simp only [World.setCells] at hrun
    unfold Oper.wp execOp
    simp only [hx, hy, Instr.storeAt, Instr.sureAddr, Sem.run_bind, Sem.run_pure, Result.andThen_ok, storeVar, sizeOf, typeInfo, hq, hcell, hs]
    simp [hq, hs, hrun]
    exact hK _ _ h2
theorem wl_len {α : Type} {enc : α → List Value} {size : Nat} {w1 : World} (x : Operand) (v : Value) (l : List α) (t e : TypeId) (ht : P.underlying t = some (.slice e)) (hx : a.eval x = v) (hR : RdL enc size w1 v l)
    (h : wpList P ops Q rest (a.put dst (.int .i64 l.length)) W) : wpList P ops Q (Oper.mk dst (.call { callee := .builtin .len, args := #[x], argTypes := #[t] }) tt ps af none :: rest) a W := by
  obtain ⟨A, c, rfl, _⟩ := hR
  refine wpList_plain rfl fun K hK => ?_
  unfold Oper.wp execOp
  simp only [resolve, invoke, builtin, Sem.run_bind, Sem.run_pure, Result.andThen_ok, List.map_toArray, List.map_cons, List.map_nil, hx]
  simp [Builtin.len_, Builtin.lenOf, goInt, run_underlying ht]
  exact hK _ _ h
theorem wl_index {α : Type} {enc : α → List Value} {size : Nat} (t e : TypeId) (x i : Operand) (v : Value) (l : List α) (ki : IntKind) (n : Int) (u : α) (he : ∀ x, (enc x).length = size) (ht : P.underlying t = some (.slice e)) (hs : (P.info? e).map (·.size) = some size)
    (hx : a.eval x = v) (hi : a.eval i = .int ki n) (hR : RdL enc size W v l) (hn : 0 ≤ n) (hu : l[n.toNat]? = some u)
    (h : ∀ p, At W p (enc u) → wpList P ops Q rest (a.put dst p) W) : wpList P ops Q (Oper.mk dst (.indexAddr t x i) tt ps af none :: rest) a W := by
  obtain ⟨b, o, c, rfl, hr⟩ := RdL.elem he hR n.toNat u hu
  have hlt : n.toNat < l.length := (List.getElem?_eq_some_iff.1 hu).1
  refine wpList_plain rfl fun K hK => ?_
  have h1 := h (.pointer (some ⟨b, o + n.toNat * size, none⟩)) ⟨b, _, rfl, hr⟩
  cases hq : P.info? e with
  | none => simp [hq] at hs
  | some ie =>
    have hsz : ie.size = size := by simpa [hq] using hs
    unfold Oper.wp execOp
    simp only [Instr.indexAt, hx, hi, Sem.run_bind, Sem.run_pure, Result.andThen_ok, asIntOf, run_underlying ht, Bool.and_false, sizeOf, typeInfo, hq]
    have hcond : 0 ≤ n ∧ n < (l.length : Int) := ⟨hn, by omega⟩
    simp [hcond, hq, hsz, Addr.add_mid]
    exact hK _ _ h1
theorem RdL.cut {α : Type} {enc : α → List Value} {size : Nat} (he : ∀ x, (enc x).length = size) {w : World} {A : Option Addr} {c : Nat} {l : List α} (h : RdL enc size w (.slice A l.length c) l) (i j : Nat) (hij : i ≤ j) (hj : j ≤ l.length) :
    RdL enc size w (.slice (if c = i then A else A.map (·.add (i * size))) (j - i) (c - i)) ((l.take j).drop i) := by
  obtain ⟨A', c', h1, h2, h3, h4⟩ := h
  injection h1 with hA _ hc
  subst hA; subst hc
  have hlen : ((l.take j).drop i).length = j - i := by rw [List.length_drop, List.length_take, Nat.min_eq_left hj]
  refine ⟨_, _, by rw [hlen], by rw [hlen]; omega, by omega, fun hne => ?_⟩
  have hpos : i < j := by
    rcases Nat.lt_or_ge i j with h | h
    · exact h
    · exact absurd (List.eq_nil_of_length_eq_zero (by omega)) hne
  obtain ⟨b, o, rfl, hr⟩ := h4 (fun e => by simp [e] at hj; omega)
  rw [if_neg (by omega)]
  refine ⟨b, o + i * size, by simp [Addr.add_mid], ?_⟩
  rw [flatMap_drop he, flatMap_take he]
  exact rangeAt_drop (rangeAt_take hr _) _
theorem wl_slice_lo {α : Type} {enc : α → List Value} {size : Nat} {w1 : World} (t e : TypeId) (x lo : Operand) (v : Value) (l : List α) (k1 : IntKind) (i : Int) (he : ∀ x, (enc x).length = size) (ht : P.underlying t = some (.slice e)) (hs : (P.info? e).map (·.size) = some size)
    (hx : a.eval x = v) (hlo : a.eval lo = .int k1 i) (hR : RdL enc size w1 v l) (hi0 : 0 ≤ i) (hi : i ≤ l.length)
    (h : ∀ v', RdL enc size w1 v' (l.drop i.toNat) → wpList P ops Q rest (a.put dst v') W) : wpList P ops Q (Oper.mk dst (.slice t x (some lo) none none) tt ps af none :: rest) a W := by
  have hR0 := hR
  obtain ⟨A, c, rfl, hc, hm, _⟩ := hR
  have hcut := RdL.cut he hR0 i.toNat l.length (by omega) (Nat.le_refl _)
  rw [List.take_length] at hcut
  have h1 := h _ hcut
  refine wpList_plain rfl fun K hK => ?_
  cases hq : P.info? e with
  | none => simp [hq] at hs
  | some ie =>
    have hsz : ie.size = size := by simpa [hq] using hs
    unfold Oper.wp execOp
    simp only [Instr.sliceAt, Instr.slice, Instr.sliceBounds, Instr.sliceBound, hx, hlo, Option.map_some, Option.map_none, Sem.run_bind, Sem.run_pure, Result.andThen_ok, asIntOf, run_underlying ht, sizeOf, typeInfo, hq]
    have hcond : 0 ≤ i ∧ i ≤ (l.length : Int) := ⟨hi0, hi⟩
    simp [hcond, hq, hsz]
    exact hK _ _ h1
end
end
section
set_option linter.unusedVariables false
set_option linter.unusedSimpArgs false
open Go.RowKit
theorem Mem.nilrow {w0 W : World} {L : List It} (h : Mem w0 W L) (e : TypeId) (size : Nat) : Mem w0 W (.row (.slice none 0 0) e size 0 [] :: L) :=
  ⟨h.below, by intro x hx; rcases List.mem_cons.1 hx with rfl | hx; exact World.ownsRow_nil W _ e size; exact h.ok x hx,
   List.pairwise_cons.2 ⟨fun y _ b hb => by simp [It.at, Value.ownBlock] at hb, h.apart⟩⟩
theorem Mem.toRow {w0 W : World} {L L' : List It} (h : Mem w0 W L) {b : Nat} {cs : Array Value} {t : TypeId} (size n : Nat) (hk : Repl (.blk b cs t) (.row (.slice (some ⟨b, 0, none⟩) n n) t size n cs.toList) L L') (hn : cs.size = n * size) (hm : n ≤ maxLen) :
    Mem w0 W L' := by
  have hb := h.blk hk.mem
  have h0 := (h.ok _ hk.mem).1
  refine h.turn hk ⟨rfl, rfl, rfl, Nat.le_refl _, fun _ _ _ => rfl⟩ ?_ (fun b' hb' => .inl (by simpa [It.at, Value.ownBlock] using hb'))
  exact ⟨by simpa using hn, .inr ⟨b, n, cs, rfl, h0, hb, Nat.le_refl _, hm, hn, by rw [List.take_of_length_le (by simp [hn])]⟩⟩
theorem RdL.of_blk {α : Type} {enc : α → List Value} {size : Nat} {W : World} {b : Nat} {cs : Array Value} {t : TypeId} (hb : W.heap[b]? = some (.cells cs t (0, 0))) (l : List α) (n : Nat) (hn : l.length = n) (hl : cs.toList = l.flatMap enc) (hm : n ≤ maxLen) :
    RdL enc size W (.slice (some ⟨b, 0, none⟩) n n) l :=
  ⟨some ⟨b, 0, none⟩, n, by rw [hn], by omega, hm, fun _ => ⟨b, 0, rfl, fun j v hv => by rw [cell_of_row W b _ cs t _ hb, ← Array.getElem?_toList, hl]; simpa using hv⟩⟩
theorem Mem.rdRow {α : Type} {enc : α → List Value} {size : Nat} (hs : 0 < size) (he : ∀ x, (enc x).length = size) {w0 W : World} {L : List It} (h : Mem w0 W L) {v : Value} {e : TypeId} {n : Nat} {l : List α} (hk : It.row v e size n (l.flatMap enc) ∈ L) : RdL enc size W v l :=
  (RdL.own hs he (h.row hk)).2
section
variable {P : Program} {ops : Array Oper} {rest : List Oper} {a : Act} {Q : Exit → Act → World → Prop} {w0 W : World} {L : List It} {dst : Option Tmp} {tt : TypeId} {ps : String} {af : Array Edge}
theorem wl_append {α : Type} {enc : α → List Value} {f : It → List It} (s x : Operand) (t e : TypeId) (z : Value) (size bytes : Nat) (v xv : Value) (n : Nat) (xs : List Value) (l : List α)
    (ht : P.underlying t = some (.slice e)) (hinfo : (P.info? e).map (fun i => (i.zero, i.size, i.bytes)) = some (some z, size, bytes)) (hzs : z.cells.size = size) (hsz : 0 < size) (he : ∀ x, (enc x).length = size) (h1 : ∀ x, ∀ u ∈ enc x, u.oneCell' = true)
    (HM : Mem w0 W L) (hk : Spot (.row v e size n xs) L f) (hR : RdL enc size W xv l) (hs : a.eval s = v) (hx : a.eval x = xv) (hb0 : 0 < bytes) (hb : (n + l.length) * bytes ≤ 140737488355328)
    (h : ∀ v' W', Mem w0 W' (f (.row v' e size (n + l.length) (xs ++ l.flatMap enc))) → wpList P ops Q rest (a.put dst v') W') :
    wpList P ops Q (Oper.mk dst (.call { callee := .builtin .append, args := #[s, x], argTypes := #[t, t] }) tt ps af none :: rest) a W := by
  obtain ⟨i0, hi, hz0, hz1, hz2⟩ := info_parts hinfo
  have hown := HM.row hk.mem
  have hlen : n + l.length ≤ 140737488355328 := Nat.le_trans (Nat.le_mul_of_pos_right _ hb0) hb
  obtain ⟨A, c, rfl, hc, hcm, hr⟩ := hR
  refine wpList_plain rfl fun K hK => ?_
  have key : ∃ v' W', (Builtin.append_ #[t, t] tt #[v, .slice A l.length c]).run P W = .ok v' W' ∧ Mem w0 W' (f (.row v' e size (n + l.length) (xs ++ l.flatMap enc))) := by
    rcases Nat.eq_zero_or_pos l.length with h0 | h0
    · have hl : l = [] := List.eq_nil_of_length_eq_zero h0
      subst hl
      refine ⟨v, W, ?_, ?_⟩
      · rcases hown.2 with ⟨rfl, rfl⟩ | ⟨g, cap, cur, rfl, _, _, hnc, _⟩
        · cases A <;> simp [Builtin.append_, run_underlying ht, sizeOf, typeInfo, hi, Builtin.lenOf, Builtin.firstCells, loadCells, loadCellsFrom]
        · cases A <;> simp [Builtin.append_, run_underlying ht, sizeOf, typeInfo, hi, Builtin.lenOf, Builtin.firstCells, hnc, storeCells, loadCells, loadCellsFrom]
      · have hset : f (.row v e size (n + ([] : List α).length) (xs ++ ([] : List α).flatMap enc)) = L := by
          simp only [List.length_nil, Nat.add_zero, List.flatMap_nil, List.append_nil]
          exact hk.self
        rw [hset]; exact HM
    · obtain ⟨b, o, rfl, hra⟩ := hr (fun e => by simp [e] at h0)
      obtain ⟨v', W', hrun, h2, h3, _, h5⟩ := run_append_own_at (P := P) W w0.heap.size t tt e i0 z size bytes ht hi hz0 hz1 hz2 hzs hsz v n xs hown ⟨b, o, none⟩ l.length c (l.flatMap enc) (flatMap_length he l)
        (fun j u hu => by rw [Addr.add_mid]; exact hra j u hu) (fun u hu => by obtain ⟨x, _, hx⟩ := List.mem_flatMap.1 hu; exact h1 x u hx) (by simp only [maxLen]; omega) hb HM.size
      refine ⟨v', W', hrun, HM.turn (hk.repl _) h3 h2 (fun b' hb' => ?_)⟩
      simp only [It.at] at hb' ⊢
      rcases h5 with h5 | h5
      · exact .inl (by rw [← h5]; exact hb')
      · exact .inr (by rw [h5] at hb'; injection hb' with hb'; omega)
  obtain ⟨v', W', hrun, hM⟩ := key
  have h1 := h v' W' hM
  unfold Oper.wp execOp
  simp only [resolve, invoke, builtin, Sem.run_bind, Sem.run_pure, Result.andThen_ok, List.map_toArray, List.map_cons, List.map_nil, hs, hx, hrun]
  exact hK _ _ h1
theorem wl_make (t e : TypeId) (l c : Operand) (z : Value) (size bytes : Nat) (kl kc : IntKind) (N : Int) (ht : P.underlying t = some (.slice e)) (hinfo : (P.info? e).map (fun i => (i.zero, i.size, i.bytes)) = some (some z, size, bytes))
    (hl : a.eval l = .int kl N) (hc : a.eval c = .int kc N) (hN : 0 ≤ N) (hb0 : 0 < bytes) (hb : bytes * N.toNat ≤ 281474976710656) (HM : Mem w0 W L)
    (h : ∀ b W', Mem w0 W' (.blk b (madeCells z.cells (N.toNat * size)) e :: L) → wpList P ops Q rest (a.put dst (.slice (some ⟨b, 0, none⟩) N.toNat N.toNat)) W') :
    wpList P ops Q (Oper.mk dst (.makeSlice t l c) tt ps af none :: rest) a W := by
  obtain ⟨i0, hi, hz0, hz1, hz2⟩ := info_parts hinfo
  obtain ⟨n, rfl⟩ := Int.eq_ofNat_of_zero_le hN
  simp only [Int.toNat_natCast] at hb h
  have hn : n ≤ 281474976710656 := Nat.le_trans (Nat.le_mul_of_pos_left _ hb0) hb
  have hb' : (i0.bytes : Int) * (n : Int) ≤ 281474976710656 := by
    have h : ((i0.bytes * n : Nat) : Int) ≤ 281474976710656 := by rw [hz2]; omega
    rwa [Int.natCast_mul] at h
  have hrun := run_make (P := P) W t e i0 z ht hi hz0 kl kc n n (by omega) (Int.le_refl _) hb' (by omega)
  simp only [Int.toNat_natCast, hz1] at hrun
  refine wpList_plain rfl fun K hK => ?_
  have h1 := h W.heap.size (W.alloc (.cells (madeCells z.cells (n * size)) e)) (HM.new _ _)
  unfold Oper.wp execOp
  simp only [hl, hc, hrun, Sem.run_bind, Sem.run_pure, Result.andThen_ok]
  exact hK _ _ h1
theorem wl_append_zeros (s x : Operand) (t tn e : TypeId) (z : Value) (size bytes : Nat) (kn k0 : IntKind) (N : Int) (ht : P.underlying t = some (.slice e)) (htn : P.underlying tn = some (.int kn))
    (hinfo : (P.info? e).map (fun i => (i.zero, i.size, i.bytes)) = some (some z, size, bytes)) (hzs : z.cells.size = size) (hsz : 0 < size)
    (hs : a.eval s = .slice none 0 0) (hx : a.eval x = .int k0 N) (hN : 0 < N) (hb0 : 0 < bytes) (hb : N.toNat * bytes ≤ 281474976710656) (HM : Mem w0 W L)
    (h : ∀ b cap xs W', N.toNat ≤ cap → cap ≤ maxLen → Mem w0 W' (.row (.slice (some ⟨b, 0, none⟩) N.toNat cap) e size N.toNat xs :: L) → wpList P ops Q rest (a.put dst (.slice (some ⟨b, 0, none⟩) N.toNat cap)) W') :
    wpList P ops Q (Oper.mk dst (.call { callee := .builtin .append, args := #[s, x], argTypes := #[t, tn] }) tt ps af none :: rest) a W := by
  obtain ⟨i0, hi, hz0, hz1, hz2⟩ := info_parts hinfo
  obtain ⟨n, rfl⟩ := Int.eq_ofNat_of_zero_le (Int.le_of_lt hN)
  simp only [Int.toNat_natCast] at hb h
  have hn : n ≤ 281474976710656 := Nat.le_trans (Nat.le_mul_of_pos_right _ hb0) hb
  have hrun := Lib.run_append_nil_zeros (P := P) W t tn tt e i0 z k0 kn ht htn hi hz0 n (by omega) (by omega) (by omega) (by rw [hz2]; exact hb)
  have hcap := grownCap_ge W n 0 e
  have hcm : grownCap W n 0 e ≤ maxLen := grownCap_le_maxLen W n 0 e (by simp only [maxLen]; omega)
  have hM : Mem w0 (W.drew.alloc (.cells (Builtin.zeroCells z.cells n ++ Builtin.zeroCells z.cells (grownCap W n 0 e - n)) e))
      (.row (.slice (some ⟨W.heap.size, 0, none⟩) n (grownCap W n 0 e)) e size n (Builtin.zeroCells z.cells n).toList :: L) := by
    have h1 := HM.drew.new (Builtin.zeroCells z.cells n ++ Builtin.zeroCells z.cells (grownCap W n 0 e - n)) e
    have hlen : (Builtin.zeroCells z.cells n).size = n * size := by rw [size_zeroCells, hzs]
    have h2 := h1.turn (x' := .row (.slice (some ⟨W.heap.size, 0, none⟩) n (grownCap W n 0 e)) e size n (Builtin.zeroCells z.cells n).toList) .here ⟨rfl, rfl, rfl, Nat.le_refl _, fun _ _ _ => rfl⟩
      ⟨by simpa using hlen, .inr ⟨W.heap.size, _, _, rfl, HM.size, heap_alloc_new W.drew _, hcap, hcm, by
        simp only [Array.size_append, size_zeroCells, hzs, ← Nat.add_mul]; congr 1; omega, by
        simp only [Array.toList_append]; rw [List.take_append_of_le_length (by simp [hlen]), List.take_of_length_le (by simp [hlen])]⟩⟩ (fun b hb => .inl (by simpa [It.at, Value.ownBlock] using hb))
    simpa using h2
  have h1 := h _ _ _ _ hcap hcm hM
  refine wpList_plain rfl fun K hK => ?_
  unfold Oper.wp execOp
  simp only [resolve, invoke, builtin, Sem.run_bind, Sem.run_pure, Result.andThen_ok, List.map_toArray, List.map_cons, List.map_nil, hs, hx, hrun]
  exact hK _ _ h1
theorem wl_row_hi {f : It → List It} (t e : TypeId) (x hi : Operand) (b n cap size : Nat) (xs : List Value) (k1 : IntKind) (j : Int) (ht : P.underlying t = some (.slice e)) (hs : (P.info? e).map (·.size) = some size)
    (hx : a.eval x = .slice (some ⟨b, 0, none⟩) n cap) (hhi : a.eval hi = .int k1 j) (HM : Mem w0 W L) (hk : Spot (.row (.slice (some ⟨b, 0, none⟩) n cap) e size n xs) L f) (hj0 : 0 ≤ j) (hj : j ≤ n)
    (h : Mem w0 W (f (.row (.slice (some ⟨b, 0, none⟩) j.toNat cap) e size j.toNat (xs.take (j.toNat * size)))) → wpList P ops Q rest (a.put dst (.slice (some ⟨b, 0, none⟩) j.toNat cap)) W) :
    wpList P ops Q (Oper.mk dst (.slice t x none (some hi) none) tt ps af none :: rest) a W := by
  have hown := HM.row hk.mem
  have hM : Mem w0 W (f (.row (.slice (some ⟨b, 0, none⟩) j.toNat cap) e size j.toNat (xs.take (j.toNat * size)))) := by
    refine HM.turn (hk.repl _) ⟨rfl, rfl, rfl, Nat.le_refl _, fun _ _ _ => rfl⟩ ?_ (fun b hb => .inl (by simpa [It.at, Value.ownBlock] using hb))
    have hle : j.toNat * size ≤ n * size := Nat.mul_le_mul_right _ (by omega)
    refine ⟨by rw [List.length_take, hown.1]; omega, ?_⟩
    rcases hown.2 with ⟨hv, _⟩ | ⟨g, cap', cur, hv, hb, hh, hc, hcm, hcs, htake⟩
    · cases hv
    · injection hv with h1 h2 h3
      subst h3
      exact .inr ⟨g, cap, cur, by rw [h1], hb, hh, by omega, hcm, hcs, by rw [← htake, List.take_take, Nat.min_eq_left hle]⟩
  have h1 := h hM
  have hnc : n ≤ cap := by
    rcases hown.2 with ⟨hv, _⟩ | ⟨g, cap', cur, hv, hb, hh, hc, _⟩
    · cases hv
    · injection hv with h1 h2 h3
      omega
  refine wpList_plain rfl fun K hK => ?_
  cases hq : P.info? e with
  | none => simp [hq] at hs
  | some ie =>
    have hsz : ie.size = size := by simpa [hq] using hs
    unfold Oper.wp execOp
    simp only [Instr.sliceAt, Instr.slice, Instr.sliceBounds, Instr.sliceBound, hx, hhi, Option.map_some, Option.map_none, Sem.run_bind, Sem.run_pure, Result.andThen_ok, asIntOf, run_underlying ht, sizeOf, typeInfo, hq]
    have hcond : 0 ≤ j ∧ j ≤ (cap : Int) := ⟨hj0, by omega⟩
    simp [hcond, hq, hsz, Addr.add]
    exact hK _ _ h1
theorem wl_copy {α : Type} {enc : α → List Value} {f : It → List It} (d x : Operand) (dT sT e : TypeId) (b dl dc : Nat) (cs : Array Value) (t : TypeId) (xv : Value) (l : List α)
    (hu : P.underlying dT = some (.slice e)) (hsz : (P.info? e).map (·.size) = some 1) (he : ∀ x, (enc x).length = 1) (h1 : ∀ x, ∀ u ∈ enc x, u.oneCell' = true)
    (hd : a.eval d = .slice (some ⟨b, 0, none⟩) dl dc) (hx : a.eval x = xv) (HM : Mem w0 W L) (hk : Spot (.blk b cs t) L f) (hR : RdL enc 1 W xv l) (hdl : dl ≤ cs.size)
    (h : ∀ W', Mem w0 W' (f (.blk b (((l.take dl).flatMap enc) ++ cs.toList.drop (min l.length dl)).toArray t)) → wpList P ops Q rest (a.put dst (.int .i64 (min l.length dl : Nat))) W') :
    wpList P ops Q (Oper.mk dst (.call { callee := .builtin .copy, args := #[d, x], argTypes := #[dT, sT] }) tt ps af none :: rest) a W := by
  obtain ⟨A, c, rfl, hc, hcm, hr⟩ := hR
  have hlen : ((l.take dl).flatMap enc).length = min l.length dl := by rw [flatMap_length he, List.length_take, Nat.mul_one, Nat.min_comm]
  refine wpList_plain rfl fun K hK => ?_
  have key : ∃ W', (Builtin.copy_ #[dT, sT] tt #[.slice (some ⟨b, 0, none⟩) dl dc, .slice A l.length c]).run P W = .ok (.int .i64 (min l.length dl : Nat)) W' ∧
      Mem w0 W' (f (.blk b (((l.take dl).flatMap enc) ++ cs.toList.drop (min l.length dl)).toArray t)) := by
    rcases Nat.eq_zero_or_pos l.length with h0 | h0
    · have hl : l = [] := List.eq_nil_of_length_eq_zero h0
      subst hl
      refine ⟨W, ?_, ?_⟩
      · have hrun := run_copy_none (P := P) W dT sT tt e (some ⟨b, 0, none⟩) A dl dc 0 c hu hsz (Nat.zero_min _)
        simpa [goInt] using hrun
      · have hset : f (.blk b ((([] : List α).take dl).flatMap enc ++ cs.toList.drop (min ([] : List α).length dl)).toArray t) = L := by
          simp only [List.take_nil, List.flatMap_nil, List.length_nil, Nat.zero_min, List.drop_zero, List.nil_append, Array.toArray_toList]
          exact hk.self
        rw [hset]; exact HM
    · obtain ⟨b', o, rfl, hra⟩ := hr (fun e => by simp [e] at h0)
      have hrun := run_copy_row (P := P) W dT sT tt e b 0 dl dc ⟨b', o, none⟩ l.length c cs t ((l.take dl).flatMap enc) hu hsz (HM.blk hk.mem) (by rw [hlen])
        (fun j v hv => by rw [Addr.add_mid]; refine hra j v ?_; rw [flatMap_take he, List.getElem?_take] at hv; split at hv <;> first | exact hv | cases hv)
        (by rw [hlen]; omega) (fun u hu => by obtain ⟨x, _, hx⟩ := List.mem_flatMap.1 hu; exact h1 x u hx)
      refine ⟨_, by rw [hrun, hlen]; rfl, ?_⟩
      have hp := HM.put (cs' := (cs.toList.take 0 ++ (l.take dl).flatMap enc ++ cs.toList.drop (0 + ((l.take dl).flatMap enc).length)).toArray) (hk.repl _)
      simpa [hlen] using hp
  obtain ⟨W', hrun, hM⟩ := key
  have h1 := h W' hM
  unfold Oper.wp execOp
  simp only [resolve, invoke, builtin, Sem.run_bind, Sem.run_pure, Result.andThen_ok, List.map_toArray, List.map_cons, List.map_nil, hd, hx, hrun]
  exact hK _ _ h1
end
end
section
theorem sz5 : (Try.prog.info? 5).map (·.size) = some 1 := by kernel_rfl
theorem inf5 : (Try.prog.info? 5).map (fun i => (i.zero, i.size, i.bytes)) = some (some (Value.int IntKind.u8 0), 1, 1) := by kernel_rfl
theorem sz23 : (Try.prog.info? 23).map (·.size) = some 16 := by kernel_rfl
theorem inf23 : (Try.prog.info? 23).map (fun i => (i.zero, i.size, i.bytes)) = some (some (Value.agg #[Value.int IntKind.u8 0, Value.int IntKind.u8 0, Value.int IntKind.u8 0, Value.int IntKind.u8 0, Value.int IntKind.u8 0, Value.int IntKind.u8 0, Value.int IntKind.u8 0, Value.int IntKind.u8 0, Value.int IntKind.u8 0, Value.int IntKind.u8 0, Value.int IntKind.u8 0, Value.int IntKind.u8 0, Value.int IntKind.u8 0, Value.int IntKind.u8 0, Value.int IntKind.u8 0, Value.int IntKind.u8 0]), 16, 16) := by kernel_rfl
theorem sz24 : (Try.prog.info? 24).map (·.size) = some 1 := by kernel_rfl
theorem inf24 : (Try.prog.info? 24).map (fun i => (i.zero, i.size, i.bytes)) = some (some (Value.slice none 0 0), 1, 24) := by kernel_rfl
theorem sz52 : (Try.prog.info? 52).map (·.size) = some 3 := by kernel_rfl
theorem sz77 : (Try.prog.info? 77).map (·.size) = some 1 := by kernel_rfl
theorem sz79 : (Try.prog.info? 79).map (·.size) = some 2 := by kernel_rfl
theorem inf79 : (Try.prog.info? 79).map (fun i => (i.zero, i.size, i.bytes)) = some (some (Value.agg #[Value.int IntKind.i64 0, Value.int IntKind.i64 0]), 2, 16) := by kernel_rfl
theorem sz81 : (Try.prog.info? 81).map (·.size) = some 10 := by kernel_rfl
theorem sz109 : (Try.prog.info? 109).map (·.size) = some 1 := by kernel_rfl
theorem inf109 : (Try.prog.info? 109).map (fun i => (i.zero, i.size, i.bytes)) = some (some (Value.int IntKind.u64 0), 1, 8) := by kernel_rfl
theorem sz119 : (Try.prog.info? 119).map (·.size) = some 1 := by kernel_rfl
theorem sz161 : (Try.prog.info? 161).map (·.size) = some 2 := by kernel_rfl
end
section
set_option linter.unusedVariables false
set_option linter.unusedSimpArgs false
open Go.RowKit
abbrev Key := Vector UInt8 16
def encB (b : UInt8) : List Value := [.int .u8 b.toNat]
theorem encB_len (b : UInt8) : (encB b).length = 1 := rfl
theorem encB_one (b : UInt8) : ∀ u ∈ encB b, u.oneCell' = true := by
  intro u hu; simp only [encB, List.mem_singleton] at hu; subst hu; rfl
def encK (k : Key) : List Value := k.toList.flatMap encB
def kc (k : Key) : Array Value := (encK k).toArray
theorem encK_len (k : Key) : (encK k).length = 16 := by rw [encK, flatMap_length encB_len]; simp
theorem encK_one (k : Key) : ∀ u ∈ encK k, u.oneCell' = true := by
  intro u hu; obtain ⟨x, _, hx⟩ := List.mem_flatMap.1 hu; exact encB_one x u hx
theorem kc_size (k : Key) : (kc k).size = 16 := by simp [kc, encK_len]
theorem kc_toList (k : Key) : (kc k).toList = encK k := by simp [kc]
theorem kc_one (k : Key) : (kc k).all (·.oneCell') = true := all_oneCell_toArray (encK_one k)
def zeroKey : Key := Vector.replicate 16 0
theorem kc_zero : (Value.agg #[.int .u8 0, .int .u8 0, .int .u8 0, .int .u8 0, .int .u8 0, .int .u8 0, .int .u8 0, .int .u8 0, .int .u8 0, .int .u8 0, .int .u8 0, .int .u8 0, .int .u8 0, .int .u8 0, .int .u8 0, .int .u8 0]).cells = kc zeroKey := by rfl
end
section
set_option linter.unusedVariables false
open Go.RowKit
theorem kc_at (k : Key) (i : Nat) (h : i < 16) : (kc k)[i]? = some (.int .u8 (k[i]).toNat) := by
  have := flatMap_at encB_len k.toList i k[i] (by simp [h]) 0 (by omega)
  simpa [kc, encK, encB] using this
theorem part_kc {P : Program} {e : TypeId} (he : P.underlying e = some (.int .u8)) (k : Key) (i : Nat) (h : i < 16) (w : World) : (part e (kc k) i).run P w = .ok (.int .u8 (k[i]).toNat) w := by
  have hc := kc_at k i h
  unfold part
  simp [run_isAgg he, TypeDesc.isRow, hc]
theorem run_eqB {P : Program} (d : Nat) {e : TypeId} (he : P.underlying e = some (.int .u8)) (x y : Int) (w : World) : (Op.equalIn (d + 1) e (.int .u8 x) (.int .u8 y)).run P w = .ok (x == y) w := by
  simp [Op.equalIn, run_underlying he]
theorem key_loop {P : Program} (d : Nat) {e : TypeId} (he : P.underlying e = some (.int .u8)) (a b : Key) (w : World) : ∀ (n s : Nat), s + n ≤ 16 →
    Sem.run P (forIn (List.range' s n) ((none : Option Bool), ()) fun i __s => do
            let __do_lift ← part e (kc a) (i * 1)
            let __do_lift_1 ← part e (kc b) (i * 1)
            let __do_lift ← Op.equalIn (d + 1) e __do_lift __do_lift_1
            if (!__do_lift) = true then pure (ForInStep.done (some false, ())) else pure (ForInStep.yield (none, ()))) w =
      .ok (if (a.toList.drop s).take n = (b.toList.drop s).take n then (none, ()) else (some false, ())) w := by
  intro n
  induction n with
  | zero => intro s _; simp
  | succ n ih =>
    intro s hs
    have h1 := part_kc he a s (by omega) w
    have h2 := part_kc he b s (by omega) w
    have ea : (a.toList.drop s).take (n + 1) = a[s] :: (a.toList.drop (s + 1)).take n := by
      rw [List.drop_eq_getElem_cons (by simp; omega), List.take_succ_cons]; simp
    have eb : (b.toList.drop s).take (n + 1) = b[s] :: (b.toList.drop (s + 1)).take n := by
      rw [List.drop_eq_getElem_cons (by simp; omega), List.take_succ_cons]; simp
    rw [ea, eb]
    simp only [List.range'_succ, List.forIn_cons, Sem.run_bind, Nat.mul_one, h1, h2, Result.andThen_ok, run_eqB d he]
    by_cases h : a[s] = b[s]
    · have hb : ((a[s].toNat : Int) == (b[s].toNat : Int)) = true := by simp [h]
      simp only [hb, Bool.not_true, Bool.false_eq_true, if_false, Sem.run_pure, Result.andThen_ok]
      have := ih (s + 1) (by omega)
      simp only [Nat.mul_one] at this
      rw [this]
      simp [h]
    · have hb : ((a[s].toNat : Int) == (b[s].toNat : Int)) = false := by
        rw [beq_eq_false_iff_ne]; intro e; exact h (UInt8.toNat_inj.1 (by omega))
      simp only [hb, Bool.not_false, if_true, Sem.run_pure, Result.andThen_ok]
      simp [h]
theorem run_eq_key {P : Program} (d : Nat) {T e : TypeId} (hT : P.underlying T = some (.array 16 e)) (he : P.underlying e = some (.int .u8)) (hs : ∀ w, (sizeOf e).run P w = .ok 1 w) (a b : Key) (w : World) :
    (Op.equalIn (d + 2) T (.agg (kc a)) (.agg (kc b))).run P w = .ok (decide (a = b)) w := by
  rw [Op.equalIn]
  simp only [Sem.run_bind, run_underlying hT, Result.andThen_ok, hs]
  rw [Std.Legacy.Range.forIn_eq_forIn_range']
  have := key_loop d he a b w 16 0 (by omega)
  simp only [List.drop_zero] at this
  have e1 : (List.take 16 a.toList) = a.toList := List.take_of_length_le (by simp)
  have e2 : (List.take 16 b.toList) = b.toList := List.take_of_length_le (by simp)
  rw [e1, e2] at this
  have e3 : List.range' [:16].start [:16].size [:16].step = List.range' 0 16 := by decide
  rw [e3, this]
  simp only [Result.andThen_ok]
  by_cases h : a = b
  · subst h; simp
  · have h' : ¬ a.toList = b.toList := fun e => h (Vector.toList_inj.1 e)
    simp [h, h']
end
section
set_option linter.unusedVariables false
set_option linter.unusedSimpArgs false
open Go.RowKit
inductive Sch where
  | nil
  | cons (x : Nat × Nat) (r : Sch)
  | fork2 (i : Nat) (r : Sch) (j : Nat) (s : Sch)
  | fork3 (i : Nat) (r : Sch) (j : Nat) (s : Sch) (k : Nat) (t : Sch)
def brk (B : List Nat) (listed : Array Bool) : Bool := B.any fun b => listed.getD b false
def waits (md : Region.Mode) (ops : Array Oper) (B : List Nat) (i : Nat) : Bool :=
  B.all fun b => match ops[b]? with
    | some o => o.after.any fun e => Region.binds md e && e.on == i
    | none => true
def permB (md : Region.Mode) (ops : Array Oper) (B : List Nat) : Sch → Nat → Array Bool → Bool
  | .nil, n, listed => decide (n = 0) && (Region.ready md ops listed).isEmpty
  | .cons (k, i) r, n, listed =>
    (match k with
      | 0 => decide (Region.ready md ops listed = [i]) && !brk B listed && !B.contains i
      | 1 => (Region.ready md ops listed).contains i && Region.free md ops listed i && !brk B listed && waits md ops B i && !B.contains i
      | 2 => (Region.ready md ops listed).contains i && Region.free md ops listed i && !B.contains i
      | _ => decide (Region.ready md ops listed = [i]) && B.contains i && decide (i < listed.size)) && decide (0 < n) && permB md ops B r (n - 1) (listed.setIfInBounds i true)
  | .fork2 i r j s, n, listed => decide (Region.ready md ops listed = [i, j]) && !brk B listed && !B.contains i && !B.contains j && decide (0 < n) && permB md ops B r (n - 1) (listed.setIfInBounds i true) && permB md ops B s (n - 1) (listed.setIfInBounds j true)
  | .fork3 i r j s k t, n, listed => decide (Region.ready md ops listed = [i, j, k]) && !brk B listed && !B.contains i && !B.contains j && !B.contains k && decide (0 < n) && permB md ops B r (n - 1) (listed.setIfInBounds i true) && permB md ops B s (n - 1) (listed.setIfInBounds j true) && permB md ops B t (n - 1) (listed.setIfInBounds k true)
def wpMix (P : Program) (ops : Array Oper) (Q : Exit → Act → World → Prop) (S1 S2 : World → Prop) : Sch → Act → World → Prop
  | .nil, a, w => Q .normal a w
  | .cons (0, i) r, a, w => wpOp P ops Q i (fun a' w' => S1 w' ∧ wpMix P ops Q S1 S2 r a' w') a w
  | .cons (1, i) r, a, w => S1 w ∧ ∃ o v, ops[i]? = some o ∧ YieldsIf P ops S1 o v a ∧ wpMix P ops Q S1 S2 r (a.put o.dst v) w
  | .cons (2, i) r, a, w => S2 w ∧ ∃ o v, ops[i]? = some o ∧ YieldsIf P ops S2 o v a ∧ wpMix P ops Q S1 S2 r (a.put o.dst v) w
  | .cons (_, i) r, a, w => wpOp P ops Q i (fun a' w' => S2 w' ∧ wpMix P ops Q S1 S2 r a' w') a w
  | .fork2 i r j s, a, w => wpOp P ops Q i (fun a' w' => S1 w' ∧ wpMix P ops Q S1 S2 r a' w') a w ∧ wpOp P ops Q j (fun a' w' => S1 w' ∧ wpMix P ops Q S1 S2 s a' w') a w
  | .fork3 i r j s k t, a, w => wpOp P ops Q i (fun a' w' => S1 w' ∧ wpMix P ops Q S1 S2 r a' w') a w ∧ wpOp P ops Q j (fun a' w' => S1 w' ∧ wpMix P ops Q S1 S2 s a' w') a w ∧ wpOp P ops Q k (fun a' w' => S1 w' ∧ wpMix P ops Q S1 S2 t a' w') a w
section
variable {P : Program} {ops : Array Oper} {Q : Exit → Act → World → Prop} {md : Region.Mode} {S1 S2 : World → Prop} {B : List Nat}
def Sb (S1 S2 : World → Prop) (B : List Nat) (l : Array Bool) (w : World) : Prop := (brk B l = false → S1 w) ∧ S2 w
def wpAnyL (P : Program) (md : Region.Mode) (ops : Array Oper) (Q : Exit → Act → World → Prop) (S1 S2 : World → Prop) (B : List Nat) : Nat → Array Bool → Act → World → Prop
  | 0, listed, a, w => Region.ready md ops listed = [] ∧ Q .normal a w
  | fuel + 1, listed, a, w =>
    (Region.ready md ops listed = [] → Q .normal a w) ∧
    ∀ i ∈ Region.ready md ops listed, wpOp P ops Q i (fun a' w' => Sb S1 S2 B (listed.setIfInBounds i true) w' ∧ wpAnyL P md ops Q S1 S2 B fuel (listed.setIfInBounds i true) a' w') a w
theorem wpAny_of_L : ∀ (fuel : Nat) (listed : Array Bool) (a : Act) (w : World), wpAnyL P md ops Q S1 S2 B fuel listed a w → wpAny P md ops Q fuel listed a w
  | 0, _, _, _, h => h
  | fuel + 1, _, _, _, h => ⟨h.1, fun i hi => wpOp_mono (fun a' w' h' => wpAny_of_L fuel _ a' w' h'.2) (h.2 i hi)⟩
theorem getD_set_false {l : Array Bool} {i b : Nat} (h : b ≠ i) : (l.setIfInBounds i true).getD b false = l.getD b false := by
  simp [Array.getElem?_setIfInBounds, Ne.symm h]
theorem brk_set {l : Array Bool} {i : Nat} (h : i ∉ B) : brk B (l.setIfInBounds i true) = brk B l := by
  unfold brk
  induction B with
  | nil => rfl
  | cons b r ih =>
    simp only [List.mem_cons, not_or] at h
    simp only [List.any_cons]
    rw [ih h.2, getD_set_false (Ne.symm h.1)]
theorem wpAnyL_first {i : Nat} {oi : Oper} {v : Value} (early : Bool) (C : World → Prop) (hC1 : early = true → C = S1) (hC2 : early = false → C = S2) (hiB : i ∉ B) (hwait : early = true → waits md ops B i = true)
    (hi : ops[i]? = some oi) (hsel : ∀ (j : Nat) (o : Oper) cs b, ops[j]? = some o → o.op ≠ .select cs b)
    (hQ : ∀ c a w, Q (.panic c) (a.put oi.dst v) w → Q (.panic c) a w) :
    ∀ (fuel : Nat) (listed : Array Bool) (a : Act) (w : World), (early = true → brk B listed = false) →
      (∀ j oj, ops[j]? = some oj → j ≠ i → listed.getD j true = false → (∀ e ∈ oj.after, Region.binds md e = true → e.on ≠ i) → oi.apart ops oj = true) →
      i ∈ Region.ready md ops listed → YieldsIf P ops C oi v a → Sb S1 S2 B listed w →
      wpAnyL P md ops Q S1 S2 B fuel (listed.setIfInBounds i true) (a.put oi.dst v) w → wpAnyL P md ops Q S1 S2 B (fuel + 1) listed a w := by
  have hCw : ∀ l w, (early = true → brk B l = false) → Sb S1 S2 B l w → C w := fun l w hb hs => by
    cases early with
    | true => rw [hC1 rfl]; exact hs.1 (hb rfl)
    | false => rw [hC2 rfl]; exact hs.2
  intro fuel
  induction fuel with
  | zero =>
    intro listed a w hb _ hr hy hS H
    refine ⟨fun h => (by rw [h] at hr; cases hr), fun j hj => ?_⟩
    by_cases hji : j = i
    · subst hji
      refine hy.wpOp hi (hCw _ _ hb hS) ⟨?_, H⟩
      unfold Sb at hS ⊢; rw [brk_set hiB]; exact hS
    · have := ready_mono hj hji
      rw [H.1] at this
      cases this
  | succ fuel ih =>
    intro listed a w hb hfree hr hy hS H
    refine ⟨fun h => (by rw [h] at hr; cases hr), fun j hj => ?_⟩
    by_cases hji : j = i
    · subst hji
      refine hy.wpOp hi (hCw _ _ hb hS) ⟨?_, H⟩
      unfold Sb at hS ⊢; rw [brk_set hiB]; exact hS
    · have h1 := H.2 j (ready_mono hj hji)
      obtain ⟨hjun, oj, hoj, hall⟩ := mem_ready.1 hj
      have hnot : ∀ e ∈ oj.after, Region.binds md e = true → e.on ≠ i := fun e he hb heq => by
        have h1 := hall e he hb
        have h0 := (mem_ready.1 hr).1
        rw [heq] at h1
        rcases Nat.lt_or_ge i listed.size with h' | h'
        · simp [h'] at h0 h1; rw [h0] at h1; cases h1
        · simp [Array.getElem?_eq_none h'] at h1
      have hb' : early = true → brk B (listed.setIfInBounds j true) = false := fun he => by
        rw [brk_set]
        · exact hb he
        · intro hjB
          have hw := List.all_eq_true.1 (hwait he) j hjB
          rw [hoj] at hw
          simp only [Array.any_eq_true] at hw
          obtain ⟨k, hk, h3⟩ := hw
          simp only [Bool.and_eq_true, beq_iff_eq] at h3
          exact hnot _ (Array.getElem_mem hk) h3.1 h3.2
      have h2 := wpOp_putIf hoj (hfree j oj hoj hji hjun hnot) (fun cs b => hsel i oi cs b hi) (fun cs b => hsel j oj cs b hoj) hQ hy h1
      have hfree' : ∀ k ok, ops[k]? = some ok → k ≠ i → (listed.setIfInBounds j true).getD k true = false →
          (∀ e ∈ ok.after, Region.binds md e = true → e.on ≠ i) → oi.apart ops ok = true := fun k ok hk hki hun hno => by
        refine hfree k ok hk hki ?_ hno
        by_cases hjk : j = k
        · subst hjk; exact hjun
        · rw [getD_set_ne true hjk] at hun; exact hun
      refine wpOp_mono (fun a' w' h3 => ?_) h2
      have hSj : Sb S1 S2 B (listed.setIfInBounds j true) w' := by
        have h4 := h3.2.1
        unfold Sb at h4 ⊢
        rw [Array.setIfInBounds_comm _ _ (Ne.symm hji), brk_set hiB] at h4
        exact h4
      refine ⟨hSj, ih (listed.setIfInBounds j true) a' w' hb' hfree' (ready_mono hr (Ne.symm hji)) h3.1 hSj ?_⟩
      rw [Array.setIfInBounds_comm _ _ hji]
      exact h3.2.2
theorem wpMix_sound (hs : Region.noSelect ops = true) (h12 : ∀ w, S1 w → S2 w) (hQ : ∀ c a d v w, Q (.panic c) (Act.put a d v) w → Q (.panic c) a w) :
    ∀ (l : Sch) (n : Nat) (listed : Array Bool) (a : Act) (w : World), permB .any ops B l n listed = true → Sb S1 S2 B listed w → wpMix P ops Q S1 S2 l a w → wpAnyL P .any ops Q S1 S2 B n listed a w := by
  have eff : ∀ {listed : Array Bool} {i n : Nat} {r : Sch} {a : Act} {w : World}, brk B listed = false → i ∉ B →
      (∀ a w, Sb S1 S2 B (listed.setIfInBounds i true) w → wpMix P ops Q S1 S2 r a w → wpAnyL P .any ops Q S1 S2 B n (listed.setIfInBounds i true) a w) →
      wpOp P ops Q i (fun a' w' => S1 w' ∧ wpMix P ops Q S1 S2 r a' w') a w →
      wpOp P ops Q i (fun a' w' => Sb S1 S2 B (listed.setIfInBounds i true) w' ∧ wpAnyL P .any ops Q S1 S2 B n (listed.setIfInBounds i true) a' w') a w := by
    intro listed i n r a w h2 hiB ih h
    exact wpOp_mono (fun a' w' h' => by
      have hSb : Sb S1 S2 B (listed.setIfInBounds i true) w' := ⟨fun _ => h'.1, h12 _ h'.1⟩
      exact ⟨hSb, ih _ _ hSb h'.2⟩) h
  intro l
  induction l with
  | nil =>
    intro n listed a w hB _ h
    simp only [permB, Bool.and_eq_true, decide_eq_true_eq, List.isEmpty_iff] at hB
    obtain ⟨rfl, hB⟩ := hB
    exact ⟨hB, h⟩
  | cons x r ih =>
    obtain ⟨k, i⟩ := x
    intro n listed a w hB hS h
    have hn : 0 < n := by
      simp only [permB, Bool.and_eq_true, decide_eq_true_eq] at hB
      exact hB.1.2
    obtain ⟨n, rfl⟩ : ∃ m, n = m + 1 := ⟨n - 1, by omega⟩
    match k, hB, h with
    | 0, hB, h =>
      simp only [permB, Bool.and_eq_true, decide_eq_true_eq, Bool.not_eq_true', Nat.add_sub_cancel] at hB
      obtain ⟨⟨⟨⟨h1, h2⟩, h3⟩, _⟩, h4⟩ := hB
      have hiB : i ∉ B := by simpa using h3
      refine ⟨fun h0 => (by rw [h1] at h0; cases h0), fun j hj => ?_⟩
      rw [h1, List.mem_singleton] at hj
      subst hj
      exact eff h2 hiB (fun a w hSb hm => ih _ _ _ _ h4 hSb hm) h
    | 1, hB, h =>
      simp only [permB, Bool.and_eq_true, decide_eq_true_eq, Bool.not_eq_true', Nat.add_sub_cancel] at hB
      obtain ⟨⟨⟨⟨⟨⟨h1, h2⟩, h3⟩, h4⟩, h5⟩, _⟩, h6⟩ := hB
      have hiB : i ∉ B := by simpa using h5
      obtain ⟨hS1, o, v, ho, hy, hr⟩ := h
      exact wpAnyL_first true S1 (fun _ => rfl) (fun h => by cases h) hiB (fun _ => h4) ho (Region.noSelect_spec hs) (fun c a w hq => hQ c a o.dst v w hq) _ _ _ _ (fun _ => h3) (Region.free_spec ho h2) (by simpa using h1) hy hS
        (ih _ _ _ _ h6 (by unfold Sb at hS ⊢; rw [brk_set hiB]; exact hS) hr)
    | 2, hB, h =>
      simp only [permB, Bool.and_eq_true, decide_eq_true_eq, Bool.not_eq_true', Nat.add_sub_cancel] at hB
      obtain ⟨⟨⟨⟨h1, h2⟩, h5⟩, _⟩, h6⟩ := hB
      have hiB : i ∉ B := by simpa using h5
      obtain ⟨hS1, o, v, ho, hy, hr⟩ := h
      exact wpAnyL_first false S2 (fun h => by cases h) (fun _ => rfl) hiB (fun h => by cases h) ho (Region.noSelect_spec hs) (fun c a w hq => hQ c a o.dst v w hq) _ _ _ _ (fun h => by cases h) (Region.free_spec ho h2) (by simpa using h1) hy hS
        (ih _ _ _ _ h6 (by unfold Sb at hS ⊢; rw [brk_set hiB]; exact hS) hr)
    | k + 3, hB, h =>
      simp only [permB, Bool.and_eq_true, decide_eq_true_eq, Nat.add_sub_cancel] at hB
      obtain ⟨⟨⟨⟨h1, h2⟩, h3⟩, _⟩, h4⟩ := hB
      refine ⟨fun h0 => (by rw [h1] at h0; cases h0), fun j hj => ?_⟩
      rw [h1, List.mem_singleton] at hj
      subst hj
      have hbr : brk B (listed.setIfInBounds j true) = true := by
        refine List.any_eq_true.2 ⟨j, by simpa using h2, ?_⟩
        simp [h3]
      refine wpOp_mono (fun a' w' h' => ?_) (show wpOp P ops Q j (fun a' w' => S2 w' ∧ wpMix P ops Q S1 S2 r a' w') a w from h)
      have hSb : Sb S1 S2 B (listed.setIfInBounds j true) w' := ⟨fun h0 => (by rw [hbr] at h0; cases h0), h'.1⟩
      exact ⟨hSb, ih _ _ _ _ h4 hSb h'.2⟩
  | fork2 i r j s ih1 ih2 =>
    intro n listed a w hB hS h
    simp only [permB, Bool.and_eq_true, decide_eq_true_eq, Bool.not_eq_true'] at hB
    obtain ⟨⟨⟨⟨⟨⟨h1, h2⟩, h3⟩, h4⟩, hn⟩, h5⟩, h6⟩ := hB
    obtain ⟨n, rfl⟩ : ∃ m, n = m + 1 := ⟨n - 1, by omega⟩
    rw [Nat.add_sub_cancel] at h5 h6
    refine ⟨fun h0 => (by rw [h1] at h0; cases h0), fun q hq => ?_⟩
    rw [h1] at hq
    simp only [List.mem_cons, List.not_mem_nil, or_false] at hq
    rcases hq with rfl | rfl
    · exact eff h2 (by simpa using h3) (fun a w hSb hm => ih1 _ _ _ _ h5 hSb hm) h.1
    · exact eff h2 (by simpa using h4) (fun a w hSb hm => ih2 _ _ _ _ h6 hSb hm) h.2
  | fork3 i r j s k t ih1 ih2 ih3 =>
    intro n listed a w hB hS h
    simp only [permB, Bool.and_eq_true, decide_eq_true_eq, Bool.not_eq_true'] at hB
    obtain ⟨⟨⟨⟨⟨⟨⟨⟨h1, h2⟩, h3⟩, h4⟩, h4'⟩, hn⟩, h5⟩, h6⟩, h7⟩ := hB
    obtain ⟨n, rfl⟩ : ∃ m, n = m + 1 := ⟨n - 1, by omega⟩
    rw [Nat.add_sub_cancel] at h5 h6 h7
    refine ⟨fun h0 => (by rw [h1] at h0; cases h0), fun q hq => ?_⟩
    rw [h1] at hq
    simp only [List.mem_cons, List.not_mem_nil, or_false] at hq
    rcases hq with rfl | rfl | rfl
    · exact eff h2 (by simpa using h3) (fun a w hSb hm => ih1 _ _ _ _ h5 hSb hm) h.1
    · exact eff h2 (by simpa using h4) (fun a w hSb hm => ih2 _ _ _ _ h6 hSb hm) h.2.1
    · exact eff h2 (by simpa using h4') (fun a w hSb hm => ih3 _ _ _ _ h7 hSb hm) h.2.2
end
theorem wp_region_mix {P : Program} {id : Nat} {l : List Oper} {Q : Exit → Act → World → Prop} {a : Act} {w : World} (S1 S2 : World → Prop) (π : Sch) (B : List Nat) (hm : P.follows .mixedOrders = true)
    (hs : Region.noSelect l.toArray = true) (hB : permB .any l.toArray B π l.toArray.size (Array.replicate l.toArray.size false) = true)
    (h12 : ∀ w, S1 w → S2 w) (hS : S1 w.drew) (hQ : ∀ c a d v w, Q (.panic c) (Act.put a d v) w → Q (.panic c) a w)
    (h : wpMix P l.toArray Q S1 S2 π a w.drew) : (Code.region id l.toArray true).wp P Q a w :=
  wp_region_any hm (wpAny_of_L (S1 := S1) (S2 := S2) (B := B) _ _ _ _ (wpMix_sound hs h12 hQ π _ _ a w.drew hB ⟨fun _ => hS, h12 _ hS⟩ h))
def NoPan (Q : Exit → Act → World → Prop) : Exit → Act → World → Prop
  | .panic _, _, _ => False
  | e, a, w => Q e a w
theorem NoPan.imp {Q : Exit → Act → World → Prop} : ∀ (e : Exit) (a : Act) (w : World), NoPan Q e a w → Q e a w := fun e a w h => by
  cases e <;> first | exact h | exact (h : False).elim
theorem wp_region_mixN {P : Program} {id : Nat} {l : List Oper} {Q : Exit → Act → World → Prop} {a : Act} {w : World} (S1 S2 : World → Prop) (π : Sch) (B : List Nat) (hm : P.follows .mixedOrders = true)
    (hs : Region.noSelect l.toArray = true) (hB : permB .any l.toArray B π l.toArray.size (Array.replicate l.toArray.size false) = true)
    (h12 : ∀ w, S1 w → S2 w) (hS : S1 w.drew)
    (h : wpMix P l.toArray (NoPan Q) S1 S2 π a w.drew) : (Code.region id l.toArray true).wp P Q a w :=
  Code.wp_mono NoPan.imp (wp_region_mix S1 S2 π B hm hs hB h12 hS (fun _ _ _ _ _ h => h) h)
def nth : List Oper → Nat → Option Oper
  | [], _ => none
  | o :: _, 0 => some o
  | _ :: l, n + 1 => nth l n
theorem nth_eq (l : List Oper) (i : Nat) : nth l i = l.toArray[i]? := by
  induction l generalizing i with
  | nil => simp [nth]
  | cons o l ih =>
    cases i with
    | zero => simp [nth]
    | succ n => simp [nth, ih]
section
variable {P : Program} {ops : List Oper} {Q : Exit → Act → World → Prop} {S1 S2 : World → Prop} {r : Sch} {i : Nat} {a : Act} {w : World} {o : Oper} {v : Value}
theorem wm_nilN (h : Q .normal a w) : wpMix P ops.toArray (NoPan Q) S1 S2 .nil a w := h
theorem wm_q1 (d : Option Tmp) (ho : nth ops i = some o) (hd : o.dst = d) (hg : o.guard = none) (hS : S1 w) (hy : ∀ W, S1 W → (execOp a.eval o).run P W = .ok (.value v) W) (h : wpMix P ops.toArray Q S1 S2 r (a.put d v) w) : wpMix P ops.toArray Q S1 S2 (.cons (1, i) r) a w := by
  subst hd; exact ⟨hS, o, v, by rw [← nth_eq]; exact ho, .inl ⟨by simp [Region.wanted, hg], hy⟩, h⟩
theorem wm_q2 (d : Option Tmp) (ho : nth ops i = some o) (hd : o.dst = d) (hg : o.guard = none) (hS : S2 w) (hy : ∀ W, S2 W → (execOp a.eval o).run P W = .ok (.value v) W) (h : wpMix P ops.toArray Q S1 S2 r (a.put d v) w) : wpMix P ops.toArray Q S1 S2 (.cons (2, i) r) a w := by
  subst hd; exact ⟨hS, o, v, by rw [← nth_eq]; exact ho, .inl ⟨by simp [Region.wanted, hg], hy⟩, h⟩
theorem wm_g2 (d : Option Tmp) (ho : nth ops i = some o) (hd : o.dst = d) (hg : Region.wanted o (yielded ops.toArray a.tmps) = true) (hS : S2 w) (hy : ∀ W, S2 W → (execOp a.eval o).run P W = .ok (.value v) W) (h : wpMix P ops.toArray Q S1 S2 r (a.put d v) w) : wpMix P ops.toArray Q S1 S2 (.cons (2, i) r) a w := by
  subst hd; exact ⟨hS, o, v, by rw [← nth_eq]; exact ho, .inl ⟨hg, hy⟩, h⟩
theorem wm_q2x {Φ : Value → Prop} (d : Option Tmp) (ho : nth ops i = some o) (hd : o.dst = d) (hg : o.guard = none) (hS : S2 w) (hy : ∃ v, (∀ W, (execOp a.eval o).run P W = .ok (.value v) W) ∧ Φ v) (h : ∀ v, Φ v → wpMix P ops.toArray Q S1 S2 r (a.put d v) w) : wpMix P ops.toArray Q S1 S2 (.cons (2, i) r) a w := by
  obtain ⟨v, h1, h2⟩ := hy
  exact wm_q2 d ho hd hg hS (fun W _ => h1 W) (h v h2)
theorem wm_g2x {Φ : Value → Prop} (d : Option Tmp) (ho : nth ops i = some o) (hd : o.dst = d) (hg : Region.wanted o (yielded ops.toArray a.tmps) = true) (hS : S2 w) (hy : ∃ v, (∀ W, (execOp a.eval o).run P W = .ok (.value v) W) ∧ Φ v) (h : ∀ v, Φ v → wpMix P ops.toArray Q S1 S2 r (a.put d v) w) : wpMix P ops.toArray Q S1 S2 (.cons (2, i) r) a w := by
  obtain ⟨v, h1, h2⟩ := hy
  subst hd; exact ⟨hS, o, v, by rw [← nth_eq]; exact ho, .inl ⟨hg, fun W _ => h1 W⟩, h v h2⟩
theorem wm_s2 (d : Option Tmp) (ho : nth ops i = some o) (hd : o.dst = d) (hg : Region.wanted o (yielded ops.toArray a.tmps) = false) (hS : S2 w) (h : wpMix P ops.toArray Q S1 S2 r (a.put d undef) w) : wpMix P ops.toArray Q S1 S2 (.cons (2, i) r) a w := by
  subst hd; exact ⟨hS, o, undef, by rw [← nth_eq]; exact ho, .inr ⟨hg, rfl⟩, h⟩
theorem wm_es0 (d : Option Tmp) (ho : nth ops i = some o) (hd : o.dst = d) (hg : Region.wanted o (yielded ops.toArray a.tmps) = false) (hS : S1 w) (h : wpMix P ops.toArray Q S1 S2 r (a.put d undef) w) : wpMix P ops.toArray Q S1 S2 (.cons (0, i) r) a w := by
  subst hd
  show wpOp P ops.toArray Q i _ a w
  rw [nth_eq] at ho
  unfold wpOp
  simp only [ho, hg, Bool.false_eq_true, if_false]
  exact ⟨hS, h⟩
theorem wpOp_list {K : Act → World → Prop} (ho : nth ops i = some o) (h : wpList P ops.toArray (Exit.then K Q) [o] a w) : wpOp P ops.toArray Q i K a w := by
  rw [nth_eq] at ho
  unfold wpOp
  simp only [ho]
  unfold wpList at h
  have hP : ∀ (x : Result Next), o.upon P a (wpList P ops.toArray (Exit.then K Q) []) (Exit.then K Q) x → o.upon P a K Q x := by
    intro x hx
    cases x with
    | ok n w' =>
      cases n <;> simp only [Oper.upon] at hx ⊢
      case value u => exact hx
      case skip => exact hx
      case defer d => exact hx
      case enter f args => exact Calls.mono hx (fun e w'' he => by cases e <;> exact he)
      case row row args => exact Rows.mono hx (fun _ _ he => he)
    | halt y w' => cases y <;> simp only [Oper.upon] at hx ⊢; exact hx
  split at h
  · rename_i hw
    rw [if_pos hw]
    rcases h with h | ⟨h1, h2⟩
    · exact .inl (hP _ h)
    · exact .inr ⟨h1, by obtain ⟨a', w', h3⟩ := h2; exact ⟨a', w', h3⟩⟩
  · rename_i hw
    rw [if_neg hw]
    exact h
theorem wm_e0 (ho : nth ops i = some o) (h : wpList P ops.toArray (Exit.then (fun a' w' => S1 w' ∧ wpMix P ops.toArray Q S1 S2 r a' w') Q) [o] a w) : wpMix P ops.toArray Q S1 S2 (.cons (0, i) r) a w := wpOp_list ho h
theorem wm_e3 (ho : nth ops i = some o) (h : wpList P ops.toArray (Exit.then (fun a' w' => S2 w' ∧ wpMix P ops.toArray Q S1 S2 r a' w') Q) [o] a w) : wpMix P ops.toArray Q S1 S2 (.cons (3, i) r) a w := wpOp_list ho h
end
structure Held (w0 W : World) (L : List It) : Prop where
  below : Below w0.heap.size w0 W
  ok : ∀ x ∈ L, x.ok w0.heap.size W
theorem Mem.held {w0 W : World} {L L' : List It} (h : Mem w0 W L) (hs : ∀ x ∈ L', x ∈ L) : Held w0 W L' := ⟨h.below, fun x hx => h.ok x (hs x hx)⟩
theorem Held.blk {w0 W : World} {L : List It} (h : Held w0 W L) {b : Nat} {cs : Array Value} {t : TypeId} (hk : It.blk b cs t ∈ L) : W.heap[b]? = some (.cells cs t (0, 0)) :=
  (h.ok _ hk).2
theorem Held.row {w0 W : World} {L : List It} (h : Held w0 W L) {v : Value} {e : TypeId} {size n : Nat} {xs : List Value} (hk : It.row v e size n xs ∈ L) : W.ownsRow w0.heap.size e size v n xs :=
  h.ok _ hk
theorem Held.rdRow {α : Type} {enc : α → List Value} {size : Nat} (hs : 0 < size) (he : ∀ x, (enc x).length = size) {w0 W : World} {L : List It} (h : Held w0 W L) {v : Value} {e : TypeId} {n : Nat} {l : List α} (hk : It.row v e size n (l.flatMap enc) ∈ L) : RdL enc size W v l :=
  (RdL.own hs he (h.row hk)).2
theorem rd_row {α : Type} {enc : α → List Value} {size : Nat} {w0 W : World} {L : List It} (h : Mem w0 W L) {v : Value} {e : TypeId} {n : Nat} {xs : List Value} {l : List α} (hk : It.row v e size n xs ∈ L) (hx : xs = l.flatMap enc) (hs : 0 < size := by decide)
    (he : ∀ x, (enc x).length = size := by exact encB_len) : RdL enc size W v l := by subst hx; exact h.rdRow hs he hk
theorem rd_rowH {α : Type} {enc : α → List Value} {size : Nat} {w0 W : World} {L : List It} (h : Held w0 W L) {v : Value} {e : TypeId} {n : Nat} {xs : List Value} {l : List α} (hk : It.row v e size n xs ∈ L) (hx : xs = l.flatMap enc) (hs : 0 < size := by decide)
    (he : ∀ x, (enc x).length = size := by exact encB_len) : RdL enc size W v l := by subst hx; exact h.rdRow hs he hk
theorem Held.weak {w0 W : World} {L L' : List It} (h : Held w0 W L) (hs : ∀ x ∈ L', x ∈ L) : Held w0 W L' := ⟨h.below, fun x hx => h.ok x (hs x hx)⟩
theorem RdL.held {α : Type} {enc : α → List Value} {size : Nat} {w W : World} {v : Value} {l : List α} {L : List It} (h : RdL enc size w v l) (hm : Held w W L) : RdL enc size W v l := h.below hm.below
theorem At.held {w0 W : World} {L : List It} {p : Value} {cs : List Value} (h : At w0 p cs) (hm : Held w0 W L) : At W p cs := by
  obtain ⟨b, o, e, hr⟩ := h
  exact ⟨b, o, e, rangeAt_below hm.below hr⟩
section
variable {P : Program} {a : Act} {w0 W : World} {L : List It} {dst : Option Tmp} {tt : TypeId} {ps : String} {af : Array Edge} {gd : Option (Nat × Bool)}
theorem ry_load_at (ty : TypeId) (x : Operand) (p : Value) (cs : List Value) (d : TypeDesc) (hx : a.eval x = p) (hp : At W p cs) (hu : P.underlying ty = some d) (hd : d.isRow = true) (hi : (P.info? ty).map (·.size) = some cs.length) :
    (execOp a.eval (Oper.mk dst (.load ty x) tt ps af gd)).run P W = .ok (.value (.agg cs.toArray)) W := by
  obtain ⟨b, o, rfl, hr⟩ := hp
  unfold execOp
  simp only [hx, Instr.loadAt, Instr.sureAddr, Sem.run_bind, Sem.run_pure, Result.andThen_ok, run_loadVar_mid W b o ty cs d hr hu hd hi]
theorem ry_load_at1 (ty : TypeId) (x : Operand) (p : Value) (v : Value) (d : TypeDesc) (hx : a.eval x = p) (hp : At W p [v]) (hu : P.underlying ty = some d) (hd : d.isRow = false) :
    (execOp a.eval (Oper.mk dst (.load ty x) tt ps af gd)).run P W = .ok (.value v) W := by
  obtain ⟨b, o, rfl, hr⟩ := hp
  have hc : W.cell? ⟨b, o, none⟩ = some v := by simpa using hr 0 v rfl
  unfold execOp
  simp only [hx, Instr.loadAt, Instr.sureAddr, Sem.run_bind, Sem.run_pure, Result.andThen_ok, run_loadVar_cell hu hd hc]
theorem At.blk {b : Nat} {cs : Array Value} {t : TypeId} (h : W.heap[b]? = some (.cells cs t (0, 0))) : At W (.pointer (some ⟨b, 0, none⟩)) cs.toList :=
  ⟨b, 0, rfl, fun j v hv => by rw [cell_of_row W b _ cs t _ h]; simpa using hv⟩
theorem ry_load_blk (ty : TypeId) (x : Operand) (b : Nat) (cs : Array Value) (t : TypeId) (d : TypeDesc) (HM : Held w0 W L) (hx : a.eval x = .pointer (some ⟨b, 0, none⟩)) (hk : It.blk b cs t ∈ L)
    (hu : P.underlying ty = some d) (hd : d.isRow = true) (hi : (P.info? ty).map (·.size) = some cs.size) :
    (execOp a.eval (Oper.mk dst (.load ty x) tt ps af gd)).run P W = .ok (.value (.agg cs)) W := by
  have := ry_load_at (P := P) (dst := dst) (tt := tt) (ps := ps) (af := af) (gd := gd) ty x _ cs.toList d hx (At.blk (HM.blk hk)) hu hd (by simpa using hi)
  simpa using this
theorem ry_load_cell (ty : TypeId) (x : Operand) (b o : Nat) (cs : Array Value) (t : TypeId) (v : Value) (d : TypeDesc) (HM : Held w0 W L) (hx : a.eval x = .pointer (some ⟨b, o, none⟩)) (hk : It.blk b cs t ∈ L)
    (hv : cs[o]? = some v) (hu : P.underlying ty = some d) (hd : d.isRow = false) :
    (execOp a.eval (Oper.mk dst (.load ty x) tt ps af gd)).run P W = .ok (.value v) W :=
  ry_load_at1 ty x _ v d hx ⟨b, o, rfl, fun j u hu' => by
    cases j with
    | zero => simp only [List.getElem?_cons_zero, Option.some.injEq] at hu'; subst hu'; rw [cell_of_row W b _ cs t _ (HM.blk hk)]; exact hv
    | succ j => simp at hu'⟩ hu hd
theorem ry_load_sub (ty : TypeId) (x : Operand) (b o n : Nat) (cs cs' : Array Value) (t : TypeId) (d : TypeDesc) (HM : Held w0 W L) (hx : a.eval x = .pointer (some ⟨b, o, none⟩)) (hk : It.blk b cs t ∈ L)
    (hu : P.underlying ty = some d) (hd : d.isRow = true) (hi : (P.info? ty).map (·.size) = some n) (hc : cs.extract o (o + n) = cs') (hn : cs'.size = n) :
    (execOp a.eval (Oper.mk dst (.load ty x) tt ps af gd)).run P W = .ok (.value (.agg cs')) W := by
  have hr := World.rangeAt_of_block (HM.blk hk) o n
  rw [hc] at hr
  have := ry_load_at (P := P) (dst := dst) (tt := tt) (ps := ps) (af := af) (gd := gd) ty x _ cs'.toList d hx ⟨b, o, rfl, hr⟩ hu hd (by rw [hi]; simp [hn])
  simpa using this
theorem ry_len {α : Type} {enc : α → List Value} {size : Nat} {w1 : World} (x : Operand) (v : Value) (l : List α) (t e : TypeId) (ht : P.underlying t = some (.slice e)) (hR : RdL enc size w1 v l) (hx : a.eval x = v) :
    (execOp a.eval (Oper.mk dst (.call { callee := .builtin .len, args := #[x], argTypes := #[t] }) tt ps af gd)).run P W = .ok (.value (.int .i64 l.length)) W := by
  obtain ⟨A, c, rfl, _⟩ := hR
  unfold execOp
  simp only [resolve, invoke, builtin, Sem.run_bind, Sem.run_pure, Result.andThen_ok, List.map_toArray, List.map_cons, List.map_nil, hx]
  simp [Builtin.len_, Builtin.lenOf, goInt, run_underlying ht]
theorem ry_index {α : Type} {enc : α → List Value} {size : Nat} (t e : TypeId) (x i : Operand) (v : Value) (l : List α) (ki : IntKind) (n : Int) (u : α) (S : World → Prop) (w : World) (he : ∀ x, (enc x).length = size) (ht : P.underlying t = some (.slice e)) (hs : (P.info? e).map (·.size) = some size)
    (hS : S w) (hR : ∀ W, S W → RdL enc size W v l) (hx : a.eval x = v) (hi : a.eval i = .int ki n) (hn : 0 ≤ n) (hu : l[n.toNat]? = some u) :
    ∃ p, (∀ W, (execOp a.eval (Oper.mk dst (.indexAddr t x i) tt ps af gd)).run P W = .ok (.value p) W) ∧ ∀ W, S W → At W p (enc u) := by
  have hlt : n.toNat < l.length := (List.getElem?_eq_some_iff.1 hu).1
  obtain ⟨b, o, c, hv, hr⟩ := RdL.elem he (hR w hS) n.toNat u hu
  refine ⟨.pointer (some ⟨b, o + n.toNat * size, none⟩), fun W => ?_, fun W hW => ?_⟩
  · subst hv
    cases hq : P.info? e with
    | none => simp [hq] at hs
    | some ie =>
      have hsz : ie.size = size := by simpa [hq] using hs
      unfold execOp
      simp only [Instr.indexAt, hx, hi, Sem.run_bind, Sem.run_pure, Result.andThen_ok, asIntOf, run_underlying ht, Bool.and_false, sizeOf, typeInfo, hq]
      have hcond : 0 ≤ n ∧ n < (l.length : Int) := ⟨hn, by omega⟩
      simp [hcond, hq, hsz, Addr.add_mid]
  · obtain ⟨b', o', c', hv', hr'⟩ := RdL.elem he (hR W hW) n.toNat u hu
    rw [hv] at hv'
    injection hv' with h1 _ _
    injection h1 with h1
    injection h1 with h1 h2
    subst h1; subst h2
    exact ⟨b, _, rfl, hr'⟩
theorem ry_slice_lo {α : Type} {enc : α → List Value} {size : Nat} {w1 : World} (t e : TypeId) (x lo : Operand) (v : Value) (l : List α) (k1 : IntKind) (i : Int) (he : ∀ x, (enc x).length = size) (ht : P.underlying t = some (.slice e)) (hs : (P.info? e).map (·.size) = some size)
    (hR : RdL enc size w1 v l) (hx : a.eval x = v) (hlo : a.eval lo = .int k1 i) (hi0 : 0 ≤ i) (hi : i ≤ l.length) :
    ∃ v', (∀ W, (execOp a.eval (Oper.mk dst (.slice t x (some lo) none none) tt ps af gd)).run P W = .ok (.value v') W) ∧ ∀ w2, RdL enc size w2 v l → RdL enc size w2 v' (l.drop i.toNat) := by
  obtain ⟨A, c, rfl, hc, hm, _⟩ := hR
  refine ⟨.slice (if c = i.toNat then A else A.map (·.add (i.toNat * size))) (l.length - i.toNat) (c - i.toNat), fun W => ?_, fun w2 h2 => ?_⟩
  · cases hq : P.info? e with
    | none => simp [hq] at hs
    | some ie =>
      have hsz : ie.size = size := by simpa [hq] using hs
      unfold execOp
      simp only [Instr.sliceAt, Instr.slice, Instr.sliceBounds, Instr.sliceBound, hx, hlo, Option.map_some, Option.map_none, Sem.run_bind, Sem.run_pure, Result.andThen_ok, asIntOf, run_underlying ht, sizeOf, typeInfo, hq]
      have hcond : 0 ≤ i ∧ i ≤ (l.length : Int) := ⟨hi0, hi⟩
      simp [hcond, hq, hsz]
  · have hcut := RdL.cut he h2 i.toNat l.length (by omega) (Nat.le_refl _)
    rw [List.take_length] at hcut
    exact hcut
theorem ry_slice_hi {α : Type} {enc : α → List Value} {size : Nat} {w1 : World} (t e : TypeId) (x hi : Operand) (v : Value) (l : List α) (k1 : IntKind) (j : Int) (he : ∀ x, (enc x).length = size) (ht : P.underlying t = some (.slice e)) (hs : (P.info? e).map (·.size) = some size)
    (hR : RdL enc size w1 v l) (hx : a.eval x = v) (hhi : a.eval hi = .int k1 j) (hj0 : 0 ≤ j) (hj : j ≤ l.length) :
    ∃ v', (∀ W, (execOp a.eval (Oper.mk dst (.slice t x none (some hi) none) tt ps af gd)).run P W = .ok (.value v') W) ∧ ∀ w2, RdL enc size w2 v l → RdL enc size w2 v' (l.take j.toNat) := by
  obtain ⟨A, c, rfl, hc, hm, _⟩ := hR
  refine ⟨.slice A j.toNat c, fun W => ?_, fun w2 h2 => ?_⟩
  · cases hq : P.info? e with
    | none => simp [hq] at hs
    | some ie =>
      have hsz : ie.size = size := by simpa [hq] using hs
      unfold execOp
      simp only [Instr.sliceAt, Instr.slice, Instr.sliceBounds, Instr.sliceBound, hx, hhi, Option.map_some, Option.map_none, Sem.run_bind, Sem.run_pure, Result.andThen_ok, asIntOf, run_underlying ht, sizeOf, typeInfo, hq]
      have hcond : 0 ≤ j ∧ j ≤ (c : Int) := ⟨hj0, by omega⟩
      have hA : Option.map (fun x : Addr => x.add 0) A = A := by cases A <;> simp [Addr.add]
      simp [hcond, hq, hsz, hA]
  · have hcut := RdL.cut he h2 0 j.toNat (by omega) (by omega)
    rw [List.drop_zero] at hcut
    have hv : (Value.slice (if c = 0 then A else Option.map (fun x => x.add (0 * size)) A) (j.toNat - 0) (c - 0)) = .slice A j.toNat c := by
      have : Option.map (fun x : Addr => x.add (0 * size)) A = A := by cases A <;> simp [Addr.add]
      rw [this]; simp
    rw [hv] at hcut
    exact hcut
end
end
section
set_option linter.unusedVariables false
set_option linter.unusedSimpArgs false
open Go.RowKit
theorem u64_lt (x : UInt64) : x.toNat < 18446744073709551616 := x.toNat_lt
def xorU (a b : UInt64) : UInt64 := a ^^^ b
def orU (a b : UInt64) : UInt64 := a ||| b
def addU (a b : UInt64) : UInt64 := a + b
def subU (a b : UInt64) : UInt64 := a - b
def shlU (a : UInt64) (s : Nat) : UInt64 := a <<< UInt64.ofNat s
def shrU (a : UInt64) (s : Nat) : UInt64 := a >>> UInt64.ofNat s
def ofB (b : UInt8) : UInt64 := b.toUInt64
def toB (a : UInt64) : UInt8 := a.toUInt8
def xorB (a b : UInt8) : UInt8 := a ^^^ b
theorem bx64 (a b : UInt64) : bits BinOp.xor IntKind.u64 (a.toNat : Int) (b.toNat : Int) = ((xorU a b).toNat : Int) := by
  rw [u64_xor_nat _ _ (u64_lt a) (u64_lt b), xorU, UInt64.toNat_xor]
theorem bo64 (a b : UInt64) : bits BinOp.or IntKind.u64 (a.toNat : Int) (b.toNat : Int) = ((orU a b).toNat : Int) := by
  rw [u64_or_nat _ _ (u64_lt a) (u64_lt b), orU, UInt64.toNat_or]
theorem w64_8 (b : UInt8) : IntKind.u64.wrap (b.toNat : Int) = ((ofB b).toNat : Int) := by
  have h : b.toNat < 256 := b.toNat_lt
  rw [IntKind.wrap_u64, ofB, UInt8.toNat_toUInt64]; omega
theorem wa64 (a b : UInt64) : IntKind.u64.wrap ((a.toNat : Int) + (b.toNat : Int)) = ((addU a b).toNat : Int) := by
  rw [IntKind.wrap_u64, addU, UInt64.toNat_add]; omega
theorem ws64 (a b : UInt64) : IntKind.u64.wrap ((a.toNat : Int) - (b.toNat : Int)) = ((subU a b).toNat : Int) := by
  have ha := u64_lt a
  have hb := u64_lt b
  rw [IntKind.wrap_u64, subU, UInt64.toNat_sub]; omega
theorem shl64 (a : UInt64) (s : Nat) (hs : s < 64) : IntKind.u64.wrap ((a.toNat : Int) * 2 ^ s) = ((shlU a s).toNat : Int) := by
  rw [IntKind.wrap_u64, shlU, UInt64.toNat_shiftLeft]
  have h1 : (UInt64.ofNat s).toNat % 64 = s := by rw [UInt64.toNat_ofNat']; omega
  rw [h1, Nat.shiftLeft_eq]
  have : ((a.toNat * 2 ^ s : Nat) : Int) = (a.toNat : Int) * 2 ^ s := by rw [Int.natCast_mul, Int.natCast_pow]; rfl
  rw [← this]
  omega
theorem shr64 (a : UInt64) (s : Nat) (hs : s < 64) : (a.toNat : Int) / 2 ^ s = ((shrU a s).toNat : Int) := by
  rw [shrU, UInt64.toNat_shiftRight]
  have h1 : (UInt64.ofNat s).toNat % 64 = s := by rw [UInt64.toNat_ofNat']; omega
  rw [h1, Nat.shiftRight_eq_div_pow]
  have : ((2 ^ s : Nat) : Int) = 2 ^ s := by rw [Int.natCast_pow]; rfl
  rw [← this]
  rfl
theorem w8_64 (a : UInt64) : IntKind.u8.wrap (a.toNat : Int) = ((toB a).toNat : Int) := by
  rw [IntKind.wrap_u8, toB, UInt64.toNat_toUInt8]; omega
theorem bx8 (a b : UInt8) : bits BinOp.xor IntKind.u8 (a.toNat : Int) (b.toNat : Int) = ((xorB a b).toNat : Int) := by
  have ha : a.toNat < 256 := a.toNat_lt
  have hb : b.toNat < 256 := b.toNat_lt
  rw [u8_xor_nat _ _ ha hb, xorB, UInt8.toNat_xor]
def rotl (x : UInt64) (n : Nat) : UInt64 := orU (shlU x n) (shrU x (64 - n))
def roundX (p : UInt64 × UInt64) (k : UInt64) : UInt64 := xorU (addU (rotl p.1 56) p.2) k
def roundF (p : UInt64 × UInt64) (k : UInt64) : UInt64 × UInt64 := (roundX p k, xorU (rotl p.2 3) (roundX p k))
def wordL (l : List UInt8) : UInt64 := l.foldl (fun n b => orU (shlU n 8) (ofB b)) 0
def wordsK (k : Key) : UInt64 × UInt64 := (wordL (k.toList.take 8), wordL (k.toList.drop 8))
def bytes8 (x : UInt64) : List UInt8 := (List.range 8).map fun i => toB (shrU x (56 - 8 * i))
def blockK (p : UInt64 × UInt64) : Key := ⟨(bytes8 p.1 ++ bytes8 p.2).toArray, by simp [bytes8]⟩
def keyAt (k : Key) : Nat → UInt64 × UInt64
  | 0 => wordsK k
  | i + 1 => roundF (keyAt k i) (UInt64.ofNat i)
def keyList (k : Key) : List UInt64 := (List.range 32).map fun i => (keyAt k i).2
def encryptK (k b : Key) : Key := blockK ((keyList k).foldl roundF (wordsK b))
def xorK (a b : Key) : Key := Vector.ofFn fun i => xorB a[i] b[i]
abbrev pairC (p : UInt64 × UInt64) : Array Value := #[.int .u64 p.1.toNat, .int .u64 p.2.toNat]
abbrev pairV (p : UInt64 × UInt64) : Value := .agg #[.int .u64 p.1.toNat, .int .u64 p.2.toNat]
end
section
set_option linter.unusedVariables false
set_option linter.unusedSimpArgs false
open Go.RowKit
def resAt (tmps : Array Value) : ResultVar → Sem Value
  | .tmp t => pure (tmps.getD t undef)
  | .cell a t => do loadVar t (← asAddr (tmps.getD a undef))
theorem results_resAt (fn : Func) (tmps : Array Value) : results fn tmps = (do
    let vs ← fn.results.mapM (resAt tmps)
    pure (if h : vs.size = 1 then vs[0] else Value.tuple vs)) := by
  unfold results
  congr 1
def ResIs (P : Program) (w : World) (tmps : Array Value) (r : ResultVar) (v : Value) : Prop := (resAt tmps r).run P w = .ok v w
section
variable {P : Program} {fn : Func} {R : Ending → World → Prop} {a : Act} {w : World} {r1 r2 r3 r4 r5 : ResultVar} {v1 v2 v3 v4 v5 : Value}
theorem res_tmp {t : Tmp} (h : a.tmps.getD t undef = v1) : ResIs P w a.tmps (.tmp t) v1 := by subst h; rfl
theorem res_row {p : Tmp} {ty : TypeId} {w0 : World} {L : List It} {b : Nat} {cs : Array Value} {t : TypeId} {d : TypeDesc} (HM : Mem w0 w L) (hp : a.tmps.getD p undef = .pointer (some ⟨b, 0, none⟩)) (hk : It.blk b cs t ∈ L)
    (hu : P.underlying ty = some d) (hd : d.isRow = true) (hi : (P.info? ty).map (·.size) = some cs.size) : ResIs P w a.tmps (.cell p ty) (.agg cs) :=
  by simp only [ResIs, resAt, Sem.run_bind, hp, asAddr, Sem.run_pure, Result.andThen_ok]; exact run_loadVar_row w b t ty cs (0, 0) d (HM.blk hk) hu (by cases d <;> first | rfl | (simp [TypeDesc.isRow] at hd)) hi
theorem ret1 (h : fn.results = #[r1]) (h1 : ResIs P w a.tmps r1 v1) (hd : a.defers = []) (hR : R (.returned v1) w) : bodyPost P fn R .ret a w :=
  ⟨hd, v1, by unfold ResIs at *; simp [results_resAt, h, *], hR⟩
theorem ret2 (h : fn.results = #[r1, r2]) (h1 : ResIs P w a.tmps r1 v1) (h2 : ResIs P w a.tmps r2 v2) (hd : a.defers = []) (hR : R (.returned (.tuple #[v1, v2])) w) : bodyPost P fn R .ret a w :=
  ⟨hd, _, by unfold ResIs at *; simp [results_resAt, h, *], hR⟩
theorem ret3 (h : fn.results = #[r1, r2, r3]) (h1 : ResIs P w a.tmps r1 v1) (h2 : ResIs P w a.tmps r2 v2) (h3 : ResIs P w a.tmps r3 v3) (hd : a.defers = []) (hR : R (.returned (.tuple #[v1, v2, v3])) w) : bodyPost P fn R .ret a w :=
  ⟨hd, _, by unfold ResIs at *; simp [results_resAt, h, *], hR⟩
theorem ret5 (h : fn.results = #[r1, r2, r3, r4, r5]) (h1 : ResIs P w a.tmps r1 v1) (h2 : ResIs P w a.tmps r2 v2) (h3 : ResIs P w a.tmps r3 v3) (h4 : ResIs P w a.tmps r4 v4) (h5 : ResIs P w a.tmps r5 v5) (hd : a.defers = [])
    (hR : R (.returned (.tuple #[v1, v2, v3, v4, v5])) w) : bodyPost P fn R .ret a w :=
  ⟨hd, _, by unfold ResIs at *; simp [results_resAt, h, *], hR⟩
end
end
section
set_option linter.unusedVariables false
set_option linter.unusedSimpArgs false
open Go.RowKit
attribute [local go_sem] bx64 bo64 w64_8 wa64 ws64 w8_64
set_option maxHeartbeats 400000 in
theorem rot_any (x : UInt64) (k : Int) (s : Nat) (hs : 0 < s) (hs' : s < 64) (hk : bits BinOp.and IntKind.u64 (IntKind.u64.wrap k) 63 = (s : Int)) (w : World) :
    Calls Try.prog 144 #[.int .u64 x.toNat, .int .i64 k] w fun e w' => e = .returned (.int .u64 (rotl x s).toNat) ∧ Mem w w' [] := by
  have HM := Mem.start w
  have h1 : IntKind.u64.wrap ((x.toNat : Int) * 2 ^ s) = ((shlU x s).toNat : Int) := shl64 x s hs'
  have h2 : (x.toNat : Int) / 2 ^ (64 - s) = ((shrU x (64 - s)).toNat : Int) := shr64 x (64 - s) (by omega)
  go_enter Try.func144, Try.ntmps144
  go_wp2_with (fail)
  go_ret
  exact ⟨rfl, HM⟩
theorem rot_m8 (x : UInt64) (w : World) : Calls Try.prog 144 #[.int .u64 x.toNat, .int .i64 (-8)] w fun e w' => e = .returned (.int .u64 (rotl x 56).toNat) ∧ Mem w w' [] :=
  rot_any x (-8) 56 (by decide) (by decide) (by decide) w
theorem rot_3 (x : UInt64) (w : World) : Calls Try.prog 144 #[.int .u64 x.toNat, .int .i64 3] w fun e w' => e = .returned (.int .u64 (rotl x 3).toNat) ∧ Mem w w' [] :=
  rot_any x 3 3 (by decide) (by decide) (by decide) w
set_option maxHeartbeats 400000 in
theorem round_c (p : UInt64 × UInt64) (k : UInt64) (w : World) :
    Calls Try.prog 108 #[pairV p, .int .u64 k.toNat] w fun e w' => e = .returned (pairV (roundF p k)) ∧ Mem w w' [] := by
  obtain ⟨x, y⟩ := p
  have HM := Mem.start w
  go_enter Try.func108, Try.ntmps108
  go_wp2_with (first
    | ((with_reducible refine s_ 2 ?_); go_must (refine wl_box (dst := some 2) (cs := #[.int .u64 x.toNat, .int .u64 y.toNat]) _ _ _ rfl rfl HM ?_; clear HM; intro b2 W HM))
    | ((with_reducible refine s_ 4 ?_); go_must (refine wl_alloc (dst := some 4) (cs := #[Value.int IntKind.u64 0, Value.int IntKind.u64 0]) 161 _ Try.zeroValue161 rfl HM ?_; clear HM; intro b4 W HM)))
  replace HM := HM.drew
  refine wp_region_mixN (fun W => Held w W [.blk b2 #[.int .u64 x.toNat, .int .u64 y.toNat] 161]) (fun W => Held w W [.blk b2 #[.int .u64 x.toNat, .int .u64 y.toNat] 161]) (.cons (2, 0) (.cons (2, 1) (.cons (2, 3) (.cons (2, 4) (.cons (2, 6) (.cons (0, 2) (.cons (2, 5) (.cons (2, 7) (.cons (2, 8) .nil))))))))) [] (by kernel_rfl) (by kernel_rfl) (by kernel_rfl) (fun W h => Held.weak h (by simp)) (HM.held (by simp)) ?_
  revert HM; generalize World.drew _ = W; intro HM
  have HS1 : Held w W [.blk b2 #[.int .u64 x.toNat, .int .u64 y.toNat] 161] := HM.held (by simp)
  have HS2 : Held w W [.blk b2 #[.int .u64 x.toNat, .int .u64 y.toNat] 161] := HM.held (by simp)
  refine wm_q2 (i := 0) (some 6) rfl rfl rfl HS2 (fun W HS => by (go_simp; try with_reducible rfl)) ?_
  simp only [Act.put, List.getElem_toArray, List.getElem_cons_succ, List.getElem_cons_zero, List.setIfInBounds_toArray, List.set_cons_succ, List.set_cons_zero]
  refine wm_q2 (i := 1) (some 7) rfl rfl rfl HS2 (fun W HS => (by (exact ry_load_cell _ _ _ _ _ _ _ _ HS rfl m0 rfl Try.underlying109 rfl))) ?_
  simp only [Act.put, List.getElem_toArray, List.getElem_cons_succ, List.getElem_cons_zero, List.setIfInBounds_toArray, List.set_cons_succ, List.set_cons_zero]
  refine wm_q2 (i := 3) (some 9) rfl rfl rfl HS2 (fun W HS => by (go_simp; try with_reducible rfl)) ?_
  simp only [Act.put, List.getElem_toArray, List.getElem_cons_succ, List.getElem_cons_zero, List.setIfInBounds_toArray, List.set_cons_succ, List.set_cons_zero]
  refine wm_q2 (i := 4) (some 10) rfl rfl rfl HS2 (fun W HS => (by (exact ry_load_cell _ _ _ _ _ _ _ _ HS rfl m0 rfl Try.underlying109 rfl))) ?_
  simp only [Act.put, List.getElem_toArray, List.getElem_cons_succ, List.getElem_cons_zero, List.setIfInBounds_toArray, List.set_cons_succ, List.set_cons_zero]
  refine wm_q2 (i := 6) (some 12) rfl rfl rfl HS2 (fun W HS => by (go_simp; try with_reducible rfl)) ?_
  simp only [Act.put, List.getElem_toArray, List.getElem_cons_succ, List.getElem_cons_zero, List.setIfInBounds_toArray, List.set_cons_succ, List.set_cons_zero]
  refine wm_e0 (i := 2) rfl ?_
  go_wp2_with (first
    | (go_at_call 144; go_must (((with_reducible refine (rot_m8 _ _).mono ?_)); rintro e W ⟨rfl, HM'⟩; replace HM := HM.keep HM'.below; clear HM')))
  refine ⟨HM.held (by simp), ?_⟩
  clear HS1 HS2
  have HS1 : Held w W [.blk b2 #[.int .u64 x.toNat, .int .u64 y.toNat] 161] := HM.held (by simp)
  have HS2 : Held w W [.blk b2 #[.int .u64 x.toNat, .int .u64 y.toNat] 161] := HM.held (by simp)
  refine wm_q2 (i := 5) (some 11) rfl rfl rfl HS2 (fun W HS => by (go_simp; try with_reducible rfl)) ?_
  simp only [Act.put, List.getElem_toArray, List.getElem_cons_succ, List.getElem_cons_zero, List.setIfInBounds_toArray, List.set_cons_succ, List.set_cons_zero]
  refine wm_q2 (i := 7) (some 13) rfl rfl rfl HS2 (fun W HS => by (go_simp; try with_reducible rfl)) ?_
  simp only [Act.put, List.getElem_toArray, List.getElem_cons_succ, List.getElem_cons_zero, List.setIfInBounds_toArray, List.set_cons_succ, List.set_cons_zero]
  refine wm_q2 (i := 8) (some 5) rfl rfl rfl HS2 (fun W HS => by (go_simp; try with_reducible rfl)) ?_
  simp only [Act.put, List.getElem_toArray, List.getElem_cons_succ, List.getElem_cons_zero, List.setIfInBounds_toArray, List.set_cons_succ, List.set_cons_zero]
  refine wm_nilN ?_
  clear HS1 HS2
  go_wp2_with (first
    | ((with_reducible refine ld_ 109 ?_); go_must (refine wl_load_cell _ _ _ _ _ _ _ _ rfl HM (by repeat first | exact List.mem_cons_self .. | refine List.mem_cons_of_mem _ ?_) (by rfl) Try.underlying109 rfl ?_))
    | ((with_reducible refine st_ 161 ?_); go_must ((refine wl_store_blk _ _ _ _ _ _ _ rfl rfl HM .here sz161 rfl (by simp [Value.oneCell']) ?_); clear HM; intro W HM))
    | (go_at_call 144; go_must (((with_reducible refine (rot_3 _ _).mono ?_)); rintro e W ⟨rfl, HM'⟩; replace HM := HM.keep HM'.below; clear HM')))
  refine ret1 rfl (by (exact res_row HM rfl m0 Try.underlying161 rfl sz161)) rfl ?_
  exact ⟨rfl, HM.base⟩
end
section
set_option linter.unusedVariables false
set_option linter.unusedSimpArgs false
open Go.RowKit
attribute [local go_sem] bx64 bo64 w64_8 wa64 ws64 w8_64
theorem shl8 (a : UInt64) : IntKind.u64.wrap ((a.toNat : Int) * 256) = ((shlU a 8).toNat : Int) := shl64 a 8 (by decide)
theorem wordL_snoc (l : List UInt8) (b : UInt8) : wordL (l ++ [b]) = orU (shlU (wordL l) 8) (ofB b) := by simp [wordL]
theorem wordL_take (l : List UInt8) (k : Nat) (h : k < l.length) : wordL (l.take (k + 1)) = orU (shlU (wordL (l.take k)) 8) (ofB l[k]) := by
  rw [List.take_succ_eq_append_getElem h, wordL_snoc]
set_option maxHeartbeats 400000 in
theorem wordsOf_c (k : Key) (w : World) :
    Calls Try.prog 106 #[.agg (kc k)] w fun e w' => e = .returned (pairV (wordsK k)) ∧ Mem w w' [] := by
  have HM := Mem.start w
  go_enter Try.func106, Try.ntmps106
  go_wp2_with (first
    | ((with_reducible refine s_ 1 ?_); go_must (refine wl_box (dst := some 1) (cs := kc k) _ _ _ rfl rfl HM ?_; clear HM; intro b1 W HM))
    | ((with_reducible refine s_ 2 ?_); go_must (refine wl_alloc (dst := some 2) (cs := #[Value.int IntKind.u64 0, Value.int IntKind.u64 0]) 161 _ Try.zeroValue161 rfl HM ?_; clear HM; intro b2 W HM))
    | ((with_reducible refine s_ 3 ?_); go_must (refine wl_alloc (dst := some 3) (cs := #[Value.int IntKind.u64 0, Value.int IntKind.u64 0]) 161 _ Try.zeroValue161 rfl HM ?_; clear HM; intro b3 W HM)))
  go_loopw [5] (fun i wr => ∃ j : Nat, j ≤ 8 ∧ i = .int .i64 j ∧ Mem w wr [.blk b3 #[.int .u64 (wordL (k.toList.take j)).toNat, .int .u64 (wordL ((k.toList.drop 8).take j)).toNat] 161, .blk b2 #[.int .u64 0, .int .u64 0] 161, .blk b1 (kc k) 23]) (fun i _ => 8 - (intOf i).toNat)
  case atStart => exact ⟨0, by omega, rfl, HM⟩
  case round =>
    clear HM
    obtain ⟨j, hj, rfl, HM⟩ := hrel
    by_cases hlt : j < 8
    · have hs8 := shl8
      have hb1 : (j : Int) < 16 := by omega
      have hb2 : 8 + (j : Int) < 16 := by omega
      have hb3 : 0 ≤ 8 + (j : Int) := by omega
      have hb5 : IntKind.i64.wrap (8 + (j : Int)) = 8 + (j : Int) := by rw [IntKind.wrap_i64]; omega
      have hb4 : (8 + (j : Int)).toNat = 8 + j := by omega
      go_wp2_with (fail)
      replace HM := HM.drew
      refine wp_region_mixN (fun W => Held w W [.blk b3 #[.int .u64 (wordL (k.toList.take j)).toNat, .int .u64 (wordL ((k.toList.drop 8).take j)).toNat] 161, .blk b1 (kc k) 23]) (fun W => Held w W [.blk b1 (kc k) 23]) (.cons (2, 0) (.cons (1, 1) (.cons (2, 2) (.cons (2, 3) (.cons (2, 4) (.cons (2, 5) (.cons (2, 6) (.cons (2, 7) (.cons (2, 8) (.cons (1, 9) (.cons (2, 10) (.cons (2, 11) (.cons (2, 12) (.cons (2, 13) (.cons (2, 14) (.cons (2, 15) (.cons (2, 16) (.cons (2, 17) (.cons (3, 18) (.cons (2, 19) (.cons (3, 20) .nil))))))))))))))))))))) [18, 20] (by kernel_rfl) (by kernel_rfl) (by kernel_rfl) (fun W h => Held.weak h (by simp)) (HM.held (by simp)) ?_
      revert HM; generalize World.drew _ = W; intro HM
      have HS1 : Held w W [.blk b3 #[.int .u64 (wordL (k.toList.take j)).toNat, .int .u64 (wordL ((k.toList.drop 8).take j)).toNat] 161, .blk b1 (kc k) 23] := HM.held (by simp)
      have HS2 : Held w W [.blk b1 (kc k) 23] := HM.held (by simp)
      refine wm_q2 (i := 0) (some 8) rfl rfl rfl HS2 (fun W HS => by (go_simp; try with_reducible rfl)) ?_
      simp only [Act.put, List.getElem_toArray, List.getElem_cons_succ, List.getElem_cons_zero, List.setIfInBounds_toArray, List.set_cons_succ, List.set_cons_zero]
      refine wm_q1 (i := 1) (some 9) rfl rfl rfl HS1 (fun W HS => (by (exact ry_load_cell _ _ _ _ _ _ _ _ HS rfl m0 rfl Try.underlying109 rfl))) ?_
      simp only [Act.put, List.getElem_toArray, List.getElem_cons_succ, List.getElem_cons_zero, List.setIfInBounds_toArray, List.set_cons_succ, List.set_cons_zero]
      refine wm_q2 (i := 2) (some 10) rfl rfl rfl HS2 (fun W HS => by (go_simp; try with_reducible rfl)) ?_
      simp only [Act.put, List.getElem_toArray, List.getElem_cons_succ, List.getElem_cons_zero, List.setIfInBounds_toArray, List.set_cons_succ, List.set_cons_zero]
      refine wm_q2 (i := 3) (some 11) rfl rfl rfl HS2 (fun W HS => by (go_simp; try with_reducible rfl)) ?_
      simp only [Act.put, List.getElem_toArray, List.getElem_cons_succ, List.getElem_cons_zero, List.setIfInBounds_toArray, List.set_cons_succ, List.set_cons_zero]
      refine wm_q2 (i := 4) (some 12) rfl rfl rfl HS2 (fun W HS => by (go_simp; try with_reducible rfl)) ?_
      simp only [Act.put, List.getElem_toArray, List.getElem_cons_succ, List.getElem_cons_zero, List.setIfInBounds_toArray, List.set_cons_succ, List.set_cons_zero]
      refine wm_q2 (i := 5) (some 13) rfl rfl rfl HS2 (fun W HS => (by ((refine ry_load_cell _ _ _ _ _ _ (.int .u8 (k[j]'(by omega)).toNat) _ HS ?_ m0 (kc_at k j (by omega)) Try.underlying5 rfl; rfl)))) ?_
      simp only [Act.put, List.getElem_toArray, List.getElem_cons_succ, List.getElem_cons_zero, List.setIfInBounds_toArray, List.set_cons_succ, List.set_cons_zero]
      refine wm_q2 (i := 6) (some 14) rfl rfl rfl HS2 (fun W HS => by (go_simp; try with_reducible rfl)) ?_
      simp only [Act.put, List.getElem_toArray, List.getElem_cons_succ, List.getElem_cons_zero, List.setIfInBounds_toArray, List.set_cons_succ, List.set_cons_zero]
      refine wm_q2 (i := 7) (some 15) rfl rfl rfl HS2 (fun W HS => by (go_simp; try with_reducible rfl)) ?_
      simp only [Act.put, List.getElem_toArray, List.getElem_cons_succ, List.getElem_cons_zero, List.setIfInBounds_toArray, List.set_cons_succ, List.set_cons_zero]
      refine wm_q2 (i := 8) (some 16) rfl rfl rfl HS2 (fun W HS => by (go_simp; try with_reducible rfl)) ?_
      simp only [Act.put, List.getElem_toArray, List.getElem_cons_succ, List.getElem_cons_zero, List.setIfInBounds_toArray, List.set_cons_succ, List.set_cons_zero]
      refine wm_q1 (i := 9) (some 17) rfl rfl rfl HS1 (fun W HS => (by (exact ry_load_cell _ _ _ _ _ _ _ _ HS rfl m0 rfl Try.underlying109 rfl))) ?_
      simp only [Act.put, List.getElem_toArray, List.getElem_cons_succ, List.getElem_cons_zero, List.setIfInBounds_toArray, List.set_cons_succ, List.set_cons_zero]
      refine wm_q2 (i := 10) (some 18) rfl rfl rfl HS2 (fun W HS => by (go_simp; try with_reducible rfl)) ?_
      simp only [Act.put, List.getElem_toArray, List.getElem_cons_succ, List.getElem_cons_zero, List.setIfInBounds_toArray, List.set_cons_succ, List.set_cons_zero]
      refine wm_q2 (i := 11) (some 19) rfl rfl rfl HS2 (fun W HS => by (go_simp; try with_reducible rfl)) ?_
      simp only [Act.put, List.getElem_toArray, List.getElem_cons_succ, List.getElem_cons_zero, List.setIfInBounds_toArray, List.set_cons_succ, List.set_cons_zero]
      refine wm_q2 (i := 12) (some 20) rfl rfl rfl HS2 (fun W HS => by (go_simp; try with_reducible rfl)) ?_
      simp only [Act.put, List.getElem_toArray, List.getElem_cons_succ, List.getElem_cons_zero, List.setIfInBounds_toArray, List.set_cons_succ, List.set_cons_zero]
      refine wm_q2 (i := 13) (some 21) rfl rfl rfl HS2 (fun W HS => by (go_simp; try with_reducible rfl)) ?_
      simp only [Act.put, List.getElem_toArray, List.getElem_cons_succ, List.getElem_cons_zero, List.setIfInBounds_toArray, List.set_cons_succ, List.set_cons_zero]
      refine wm_q2 (i := 14) (some 22) rfl rfl rfl HS2 (fun W HS => (by ((refine ry_load_cell _ _ _ _ _ _ (.int .u8 (k[8 + j]'(by omega)).toNat) _ HS ?_ m0 (kc_at k (8 + j) (by omega)) Try.underlying5 rfl; rfl)))) ?_
      simp only [Act.put, List.getElem_toArray, List.getElem_cons_succ, List.getElem_cons_zero, List.setIfInBounds_toArray, List.set_cons_succ, List.set_cons_zero]
      refine wm_q2 (i := 15) (some 23) rfl rfl rfl HS2 (fun W HS => by (go_simp; try with_reducible rfl)) ?_
      simp only [Act.put, List.getElem_toArray, List.getElem_cons_succ, List.getElem_cons_zero, List.setIfInBounds_toArray, List.set_cons_succ, List.set_cons_zero]
      refine wm_q2 (i := 16) (some 24) rfl rfl rfl HS2 (fun W HS => by (go_simp; try with_reducible rfl)) ?_
      simp only [Act.put, List.getElem_toArray, List.getElem_cons_succ, List.getElem_cons_zero, List.setIfInBounds_toArray, List.set_cons_succ, List.set_cons_zero]
      refine wm_q2 (i := 17) (some 25) rfl rfl rfl HS2 (fun W HS => by (go_simp; try with_reducible rfl)) ?_
      simp only [Act.put, List.getElem_toArray, List.getElem_cons_succ, List.getElem_cons_zero, List.setIfInBounds_toArray, List.set_cons_succ, List.set_cons_zero]
      refine wm_e3 (i := 18) rfl ?_
      go_wp2_with (first
        | ((with_reducible refine st_ 109 ?_); go_must ((refine wl_store_cell _ _ _ _ _ _ _ _ _ rfl rfl HM .here sz109 rfl (by first | omega | (simp; done) | (simp [kc_size]; done) | (simp [kc_size]; omega) | (simp only [Array.size_setIfInBounds, bytesC_size, List.length_append, List.length_replicate, List.length_set]; omega)) rfl ?_); clear HM; intro W HM; try (simp only [Act.eval, Array.getD_eq_getD_getElem?, List.getElem?_toArray, List.getElem?_cons_succ, List.getElem?_cons_zero, Option.getD_some, List.setIfInBounds_toArray, List.set_cons_succ, List.set_cons_zero] at HM))))
      refine ⟨HM.held (by simp), ?_⟩
      clear HS1 HS2
      have HS1 : True := trivial
      have HS2 : Held w W [.blk b1 (kc k) 23] := HM.held (by simp)
      refine wm_q2 (i := 19) (some 26) rfl rfl rfl HS2 (fun W HS => by (go_simp; try with_reducible rfl)) ?_
      simp only [Act.put, List.getElem_toArray, List.getElem_cons_succ, List.getElem_cons_zero, List.setIfInBounds_toArray, List.set_cons_succ, List.set_cons_zero]
      refine wm_e3 (i := 20) rfl ?_
      go_wp2_with (first
        | ((with_reducible refine st_ 109 ?_); go_must ((refine wl_store_cell _ _ _ _ _ _ _ _ _ rfl rfl HM .here sz109 rfl (by first | omega | (simp; done) | (simp [kc_size]; done) | (simp [kc_size]; omega) | (simp only [Array.size_setIfInBounds, bytesC_size, List.length_append, List.length_replicate, List.length_set]; omega)) rfl ?_); clear HM; intro W HM; try (simp only [Act.eval, Array.getD_eq_getD_getElem?, List.getElem?_toArray, List.getElem?_cons_succ, List.getElem?_cons_zero, Option.getD_some, List.setIfInBounds_toArray, List.set_cons_succ, List.set_cons_zero] at HM))))
      refine ⟨HM.held (by simp), ?_⟩
      clear HS1 HS2
      have HS1 : True := trivial
      have HS2 : Held w W [.blk b1 (kc k) 23] := HM.held (by simp)
      refine wm_nilN ?_
      clear HS1 HS2
      go_wp2_with (fail)
      have e1 : wordL (k.toList.take (j + 1)) = orU (shlU (wordL (k.toList.take j)) 8) (ofB (k[j]'(by omega))) := by
        rw [wordL_take _ _ (by simp; omega)]; simp
      have e2 : wordL ((k.toList.drop 8).take (j + 1)) = orU (shlU (wordL ((k.toList.drop 8).take j)) 8) (ofB (k[8 + j]'(by omega))) := by
        rw [wordL_take _ _ (by simp; omega)]; simp
      rw [← e1, ← e2] at HM
      go_roundw
      case rel => exact ⟨j + 1, by omega, by go_num, HM⟩
      case measure => simp [intOf]; omega
    · obtain rfl : j = 8 := by omega
      have e2 : (k.toList.drop 8).take 8 = k.toList.drop 8 := List.take_of_length_le (by simp)
      rw [e2] at HM
      go_wp2_with (first
        | ((with_reducible refine ld_ 161 ?_); go_must (refine wl_load_blk _ _ _ _ _ _ rfl HM (by repeat first | exact List.mem_cons_self .. | refine List.mem_cons_of_mem _ ?_) Try.underlying161 rfl (by exact sz161) ?_))
        | ((with_reducible refine st_ 161 ?_); go_must ((refine wl_store_blk _ _ _ _ _ _ _ rfl rfl HM (.there .here) sz161 rfl (by simp [Value.oneCell']) ?_); clear HM; intro W HM)))
      refine ret1 rfl (by (exact res_row HM rfl m1 Try.underlying161 rfl sz161)) rfl ?_
      exact ⟨rfl, HM.base⟩
theorem bytes8_len (x : UInt64) : (bytes8 x).length = 8 := by simp [bytes8]
theorem bytes8_at (x : UInt64) (j : Nat) (h : j < 8) : (bytes8 x)[j]'(by rw [bytes8_len]; exact h) = toB (shrU x (56 - 8 * j)) := by simp [bytes8]
def halfL (x : UInt64) (j : Nat) : List UInt8 := (bytes8 x).take j ++ List.replicate (8 - j) 0
theorem halfL_len (x : UInt64) (j : Nat) (h : j ≤ 8) : (halfL x j).length = 8 := by simp [halfL, bytes8_len]; omega
def partK (p : UInt64 × UInt64) (j : Nat) (h : j ≤ 8) : Key := ⟨(halfL p.1 j ++ halfL p.2 j).toArray, by simp [halfL_len _ _ h]⟩
theorem halfL_set (x : UInt64) (j : Nat) (h : j < 8) : (halfL x j).set j (toB (shrU x (56 - 8 * j))) = halfL x (j + 1) := by
  have hl := bytes8_len x
  have e : 8 - j = (8 - (j + 1)) + 1 := by omega
  unfold halfL
  rw [List.set_append_right _ _ (by simp; omega), List.take_succ_eq_append_getElem (by omega), bytes8_at x j h, e, List.replicate_succ]
  have : j - (List.take j (bytes8 x)).length = 0 := by simp; omega
  rw [this]
  simp
theorem kc_set (k : Key) (i : Nat) (h : i < 16) (b : UInt8) : (kc k).setIfInBounds i (.int .u8 b.toNat) = kc (k.set i b) := by
  have hk : ∀ l : List UInt8, l.flatMap encB = l.map (fun x => Value.int .u8 (x.toNat : Int)) := by
    intro l; induction l with
    | nil => rfl
    | cons x l ih => simp [encB, ih]
  simp only [kc, encK, hk]
  rw [List.setIfInBounds_toArray, Vector.toList_set, List.map_set]
theorem partK_set (p : UInt64 × UInt64) (j : Nat) (h : j < 8) : ((partK p j (by omega)).set j (toB (shrU p.1 (56 - 8 * j)))).set (8 + j) (toB (shrU p.2 (56 - 8 * j))) = partK p (j + 1) (by omega) := by
  apply Vector.toList_inj.1
  have h1 := halfL_set p.1 j h
  have h2 := halfL_set p.2 j h
  have hl := halfL_len p.1 j (by omega)
  have hl' := halfL_len p.1 (j + 1) (by omega)
  simp only [partK, Vector.toList_set, Vector.toList_mk]
  rw [List.set_append_left _ _ (by omega), h1, List.set_append_right _ _ (by omega), hl', show 8 + j - 8 = j by omega, h2]
theorem shrb (a : UInt64) (j : Nat) (h : j < 8) : (a.toNat : Int) / 2 ^ (56 - 8 * j) = ((shrU a (56 - 8 * j)).toNat : Int) := shr64 a (56 - 8 * j) (by omega)
set_option maxHeartbeats 400000 in
theorem block_c (p : UInt64 × UInt64) (w : World) :
    Calls Try.prog 109 #[pairV p] w fun e w' => e = .returned (.agg (kc (blockK p))) ∧ Mem w w' [] := by
  obtain ⟨x, y⟩ := p
  have HM := Mem.start w
  go_enter Try.func109, Try.ntmps109
  go_wp2_with (first
    | ((with_reducible refine s_ 1 ?_); go_must (refine wl_box (dst := some 1) (cs := #[.int .u64 x.toNat, .int .u64 y.toNat]) _ _ _ rfl rfl HM ?_; clear HM; intro b1 W HM))
    | ((with_reducible refine s_ 2 ?_); go_must (refine wl_alloc (dst := some 2) (cs := kc zeroKey) 23 _ Try.zeroValue23 kc_zero HM ?_; clear HM; intro b2 W HM))
    | ((with_reducible refine s_ 3 ?_); go_must (refine wl_alloc (dst := some 3) (cs := kc zeroKey) 23 _ Try.zeroValue23 kc_zero HM ?_; clear HM; intro b3 W HM)))
  go_loopw [5] (fun i wr => ∃ (j : Nat) (hj : j ≤ 8), i = .int .i64 j ∧ Mem w wr [.blk b3 (kc (partK (x, y) j hj)) 23, .blk b2 (kc zeroKey) 23, .blk b1 #[.int .u64 x.toNat, .int .u64 y.toNat] 161]) (fun i _ => 8 - (intOf i).toNat)
  case atStart => exact ⟨0, by omega, rfl, HM⟩
  case round =>
    clear HM
    obtain ⟨j, hj, rfl, HM⟩ := hrel
    by_cases hlt : j < 8
    · have hb1 : (j : Int) < 16 := by omega
      have hb2 : 8 + (j : Int) < 16 := by omega
      have hb3 : 0 ≤ 8 + (j : Int) := by omega
      have hb5 : IntKind.i64.wrap (8 + (j : Int)) = 8 + (j : Int) := by rw [IntKind.wrap_i64]; omega
      have hb4 : (8 + (j : Int)).toNat = 8 + j := by omega
      have hb6 : IntKind.i64.wrap (8 * (j : Int)) = 8 * (j : Int) := by rw [IntKind.wrap_i64]; omega
      have hb7 : IntKind.i64.wrap (56 - 8 * (j : Int)) = 56 - 8 * (j : Int) := by rw [IntKind.wrap_i64]; omega
      have hb8 : 0 ≤ 56 - 8 * (j : Int) := by omega
      have hb9 : (56 - 8 * (j : Int)).toNat = 56 - 8 * j := by omega
      have hq1 := shrb x j hlt
      have hq2 := shrb y j hlt
      go_wp2_with (fail)
      replace HM := HM.drew
      refine wp_region_mixN (fun W => Held w W [.blk b1 #[.int .u64 x.toNat, .int .u64 y.toNat] 161]) (fun W => Held w W [.blk b1 #[.int .u64 x.toNat, .int .u64 y.toNat] 161]) (.cons (2, 0) (.cons (2, 1) (.cons (2, 2) (.cons (2, 3) (.cons (2, 4) (.cons (2, 5) (.cons (2, 6) (.cons (2, 7) (.cons (2, 8) (.cons (2, 9) (.cons (2, 10) (.cons (2, 11) (.cons (2, 12) (.cons (2, 13) (.cons (2, 14) (.cons (2, 15) (.cons (2, 16) (.cons (2, 17) (.cons (0, 18) (.cons (2, 19) (.cons (0, 20) .nil))))))))))))))))))))) [] (by kernel_rfl) (by kernel_rfl) (by kernel_rfl) (fun W h => Held.weak h (by simp)) (HM.held (by simp)) ?_
      revert HM; generalize World.drew _ = W; intro HM
      have HS1 : Held w W [.blk b1 #[.int .u64 x.toNat, .int .u64 y.toNat] 161] := HM.held (by simp)
      have HS2 : Held w W [.blk b1 #[.int .u64 x.toNat, .int .u64 y.toNat] 161] := HM.held (by simp)
      refine wm_q2 (i := 0) (some 8) rfl rfl rfl HS2 (fun W HS => by (go_simp; try with_reducible rfl)) ?_
      simp only [Act.put, List.getElem_toArray, List.getElem_cons_succ, List.getElem_cons_zero, List.setIfInBounds_toArray, List.set_cons_succ, List.set_cons_zero]
      refine wm_q2 (i := 1) (some 9) rfl rfl rfl HS2 (fun W HS => by (go_simp; try with_reducible rfl)) ?_
      simp only [Act.put, List.getElem_toArray, List.getElem_cons_succ, List.getElem_cons_zero, List.setIfInBounds_toArray, List.set_cons_succ, List.set_cons_zero]
      refine wm_q2 (i := 2) (some 10) rfl rfl rfl HS2 (fun W HS => by (go_simp; try with_reducible rfl)) ?_
      simp only [Act.put, List.getElem_toArray, List.getElem_cons_succ, List.getElem_cons_zero, List.setIfInBounds_toArray, List.set_cons_succ, List.set_cons_zero]
      refine wm_q2 (i := 3) (some 11) rfl rfl rfl HS2 (fun W HS => by (go_simp; try with_reducible rfl)) ?_
      simp only [Act.put, List.getElem_toArray, List.getElem_cons_succ, List.getElem_cons_zero, List.setIfInBounds_toArray, List.set_cons_succ, List.set_cons_zero]
      refine wm_q2 (i := 4) (some 12) rfl rfl rfl HS2 (fun W HS => (by (exact ry_load_cell _ _ _ _ _ _ _ _ HS rfl m0 rfl Try.underlying109 rfl))) ?_
      simp only [Act.put, List.getElem_toArray, List.getElem_cons_succ, List.getElem_cons_zero, List.setIfInBounds_toArray, List.set_cons_succ, List.set_cons_zero]
      refine wm_q2 (i := 5) (some 13) rfl rfl rfl HS2 (fun W HS => by (go_simp; try with_reducible rfl)) ?_
      simp only [Act.put, List.getElem_toArray, List.getElem_cons_succ, List.getElem_cons_zero, List.setIfInBounds_toArray, List.set_cons_succ, List.set_cons_zero]
      refine wm_q2 (i := 6) (some 14) rfl rfl rfl HS2 (fun W HS => by (go_simp; try with_reducible rfl)) ?_
      simp only [Act.put, List.getElem_toArray, List.getElem_cons_succ, List.getElem_cons_zero, List.setIfInBounds_toArray, List.set_cons_succ, List.set_cons_zero]
      refine wm_q2 (i := 7) (some 15) rfl rfl rfl HS2 (fun W HS => by (go_simp; try with_reducible rfl)) ?_
      simp only [Act.put, List.getElem_toArray, List.getElem_cons_succ, List.getElem_cons_zero, List.setIfInBounds_toArray, List.set_cons_succ, List.set_cons_zero]
      refine wm_q2 (i := 8) (some 16) rfl rfl rfl HS2 (fun W HS => by (go_simp; try with_reducible rfl)) ?_
      simp only [Act.put, List.getElem_toArray, List.getElem_cons_succ, List.getElem_cons_zero, List.setIfInBounds_toArray, List.set_cons_succ, List.set_cons_zero]
      refine wm_q2 (i := 9) (some 17) rfl rfl rfl HS2 (fun W HS => by (go_simp; try with_reducible rfl)) ?_
      simp only [Act.put, List.getElem_toArray, List.getElem_cons_succ, List.getElem_cons_zero, List.setIfInBounds_toArray, List.set_cons_succ, List.set_cons_zero]
      refine wm_q2 (i := 10) (some 18) rfl rfl rfl HS2 (fun W HS => by (go_simp; try with_reducible rfl)) ?_
      simp only [Act.put, List.getElem_toArray, List.getElem_cons_succ, List.getElem_cons_zero, List.setIfInBounds_toArray, List.set_cons_succ, List.set_cons_zero]
      refine wm_q2 (i := 11) (some 19) rfl rfl rfl HS2 (fun W HS => (by (exact ry_load_cell _ _ _ _ _ _ _ _ HS rfl m0 rfl Try.underlying109 rfl))) ?_
      simp only [Act.put, List.getElem_toArray, List.getElem_cons_succ, List.getElem_cons_zero, List.setIfInBounds_toArray, List.set_cons_succ, List.set_cons_zero]
      refine wm_q2 (i := 12) (some 20) rfl rfl rfl HS2 (fun W HS => by (go_simp; try with_reducible rfl)) ?_
      simp only [Act.put, List.getElem_toArray, List.getElem_cons_succ, List.getElem_cons_zero, List.setIfInBounds_toArray, List.set_cons_succ, List.set_cons_zero]
      refine wm_q2 (i := 13) (some 21) rfl rfl rfl HS2 (fun W HS => by (go_simp; try with_reducible rfl)) ?_
      simp only [Act.put, List.getElem_toArray, List.getElem_cons_succ, List.getElem_cons_zero, List.setIfInBounds_toArray, List.set_cons_succ, List.set_cons_zero]
      refine wm_q2 (i := 14) (some 22) rfl rfl rfl HS2 (fun W HS => by (go_simp; try with_reducible rfl)) ?_
      simp only [Act.put, List.getElem_toArray, List.getElem_cons_succ, List.getElem_cons_zero, List.setIfInBounds_toArray, List.set_cons_succ, List.set_cons_zero]
      refine wm_q2 (i := 15) (some 23) rfl rfl rfl HS2 (fun W HS => by (go_simp; try with_reducible rfl)) ?_
      simp only [Act.put, List.getElem_toArray, List.getElem_cons_succ, List.getElem_cons_zero, List.setIfInBounds_toArray, List.set_cons_succ, List.set_cons_zero]
      refine wm_q2 (i := 16) (some 24) rfl rfl rfl HS2 (fun W HS => by (go_simp; try with_reducible rfl)) ?_
      simp only [Act.put, List.getElem_toArray, List.getElem_cons_succ, List.getElem_cons_zero, List.setIfInBounds_toArray, List.set_cons_succ, List.set_cons_zero]
      refine wm_q2 (i := 17) (some 25) rfl rfl rfl HS2 (fun W HS => by (go_simp; try with_reducible rfl)) ?_
      simp only [Act.put, List.getElem_toArray, List.getElem_cons_succ, List.getElem_cons_zero, List.setIfInBounds_toArray, List.set_cons_succ, List.set_cons_zero]
      refine wm_e0 (i := 18) rfl ?_
      go_wp2_with (first
        | ((with_reducible refine st_ 5 ?_); go_must ((refine wl_store_cell _ _ _ _ _ _ _ _ _ rfl rfl HM .here sz5 rfl (by first | omega | (simp; done) | (simp [kc_size]; done) | (simp [kc_size]; omega) | (simp only [Array.size_setIfInBounds, bytesC_size, List.length_append, List.length_replicate, List.length_set]; omega)) rfl ?_); clear HM; intro W HM; try (simp only [Act.eval, Array.getD_eq_getD_getElem?, List.getElem?_toArray, List.getElem?_cons_succ, List.getElem?_cons_zero, Option.getD_some, List.setIfInBounds_toArray, List.set_cons_succ, List.set_cons_zero] at HM))))
      refine ⟨HM.held (by simp), ?_⟩
      clear HS1 HS2
      have HS1 : Held w W [.blk b1 #[.int .u64 x.toNat, .int .u64 y.toNat] 161] := HM.held (by simp)
      have HS2 : Held w W [.blk b1 #[.int .u64 x.toNat, .int .u64 y.toNat] 161] := HM.held (by simp)
      refine wm_q2 (i := 19) (some 26) rfl rfl rfl HS2 (fun W HS => by (go_simp; try with_reducible rfl)) ?_
      simp only [Act.put, List.getElem_toArray, List.getElem_cons_succ, List.getElem_cons_zero, List.setIfInBounds_toArray, List.set_cons_succ, List.set_cons_zero]
      refine wm_e0 (i := 20) rfl ?_
      go_wp2_with (first
        | ((with_reducible refine st_ 5 ?_); go_must ((refine wl_store_cell _ _ _ _ _ _ _ _ _ rfl rfl HM .here sz5 rfl (by first | omega | (simp; done) | (simp [kc_size]; done) | (simp [kc_size]; omega) | (simp only [Array.size_setIfInBounds, bytesC_size, List.length_append, List.length_replicate, List.length_set]; omega)) rfl ?_); clear HM; intro W HM; try (simp only [Act.eval, Array.getD_eq_getD_getElem?, List.getElem?_toArray, List.getElem?_cons_succ, List.getElem?_cons_zero, Option.getD_some, List.setIfInBounds_toArray, List.set_cons_succ, List.set_cons_zero] at HM))))
      refine ⟨HM.held (by simp), ?_⟩
      clear HS1 HS2
      have HS1 : Held w W [.blk b1 #[.int .u64 x.toNat, .int .u64 y.toNat] 161] := HM.held (by simp)
      have HS2 : Held w W [.blk b1 #[.int .u64 x.toNat, .int .u64 y.toNat] 161] := HM.held (by simp)
      refine wm_nilN ?_
      clear HS1 HS2
      rw [kc_set _ _ (by omega), kc_set _ _ (by omega), partK_set (x, y) j hlt] at HM
      go_wp2_with (fail)
      go_roundw
      case rel => exact ⟨j + 1, by omega, by go_num, HM⟩
      case measure => simp [intOf]; omega
    · obtain rfl : j = 8 := by omega
      have e8 : partK (x, y) 8 hj = blockK (x, y) := by
        apply Vector.toList_inj.1
        simp [partK, blockK, halfL, bytes8_len, List.take_of_length_le]
      rw [e8] at HM
      go_wp2_with (first
        | ((with_reducible refine ld_ 23 ?_); go_must (refine wl_load_blk _ _ _ _ _ _ rfl HM (by repeat first | exact List.mem_cons_self .. | refine List.mem_cons_of_mem _ ?_) Try.underlying23 rfl (by rw [kc_size]; exact sz23) ?_))
        | ((with_reducible refine st_ 23 ?_); go_must ((refine wl_store_blk _ _ _ _ _ _ _ rfl rfl HM (.there .here) (by rw [kc_size]; exact sz23) (by simp only [kc_size]) (kc_one _) ?_); clear HM; intro W HM)))
      refine ret1 rfl (by (exact res_row HM rfl m1 Try.underlying23 rfl (by rw [kc_size]; exact sz23))) rfl ?_
      exact ⟨rfl, HM.base⟩
end
section
set_option linter.unusedVariables false
set_option linter.unusedSimpArgs false
open Go.RowKit
section
variable {P : Program} {n : Nat}
theorem listIn_of {F : Fence} (hF : F = Fence.wide ∨ ∃ l, F = Fence.wide.inRound l) {ops : Array Oper} {Q : Exit → Act → World → Prop} (hQ : ¬ LetsOut Q) :
    ∀ (l : List Oper) (a : Act) (w : World), (∀ o ∈ l, ∀ c, o.op ≠ .defer c) → wpList P ops Q l a w → wpListIn F n P ops Q l a w := by
  have hfn : ∀ f, F.fn f := by rcases hF with rfl | ⟨l, rfl⟩ <;> exact fun _ => trivial
  have hdp : F.depth = none := by rcases hF with rfl | ⟨l, rfl⟩ <;> rfl
  have hca : ∀ {m f args w R}, Calls P f args w R → CallsIn F m P f args w R := by
    intro m f args w R h
    rcases hF with rfl | ⟨l, rfl⟩
    · exact callsIn_wide.2 h
    · exact CallsIn.inRound l (callsIn_wide.2 h)
  have hro : ∀ {m row args w R}, Rows P row args w R → RowsIn F m P row args w R := by
    intro m row args w R h c cs _
    obtain ⟨v, w', r, s⟩ := h c cs
    refine ⟨v, w', r, (StepsIn.of_steps s).mono fun m _ => ?_⟩
    rcases hF with rfl | ⟨l, rfl⟩
    · exact fenced_wide P m
    · exact fenced_wide P m
  intro l
  induction l with
  | nil => intro a w _ h; exact h
  | cons o l ih =>
    intro a w hd h
    have hd' : ∀ o ∈ l, ∀ c, o.op ≠ .defer c := fun x hx => hd x (List.mem_cons_of_mem _ hx)
    unfold wpListIn
    unfold wpList at h
    by_cases hw : Region.wanted o (yielded ops a.tmps) = true
    · simp only [hw, if_true] at h ⊢
      rcases h with h | ⟨_, h⟩
      · refine ⟨fun f _ => hfn f, ?_⟩
        rw [Oper.semAt_plain F _ _ (hd o m0)]
        unfold Oper.wp at h
        revert h
        generalize (execOp a.eval o).run P w = r
        intro h
        cases r with
        | ok x w' =>
          cases x with
          | value v => exact ih _ _ hd' h
          | skip => exact ih _ _ hd' h
          | defer d => exact ih _ _ hd' h
          | enter f args =>
            refine ⟨fun e => (by rw [hdp] at e; cases e), hca (Calls.mono h fun e w'' hr => ?_)⟩
            cases e with
            | returned v => exact ih _ _ hd' hr
            | panicked ch => exact hr
            | outgrown => exact hr
          | row row args => exact ⟨fun e => (by rw [hdp] at e; cases e), hro (Rows.mono h fun v w'' hr => ih _ _ hd' hr)⟩
          | _ => exact h.elim
        | halt y w' => cases y <;> first | exact h | exact h.elim
      · exact absurd (by obtain ⟨a0, w0, h0⟩ := h; exact ⟨a0, w0, h0⟩) hQ
    · simp only [hw, if_false, Bool.false_eq_true] at h ⊢
      exact ⟨fun f _ => hfn f, ih _ _ hd' h⟩
theorem listIn_round {r : Nat} {ops : Array Oper} {Q : Exit → Act → World → Prop} {l : List Oper} {a : Act} {w : World} (hQ : ¬ LetsOut Q) (hd : ∀ o ∈ l, ∀ c, o.op ≠ .defer c)
    (h : wpList P ops Q l a w) : wpListIn (Fence.wide.inRound r) n P ops Q l a w := listIn_of (.inr ⟨r, rfl⟩) hQ l a w hd h
theorem listIn_wide {ops : Array Oper} {Q : Exit → Act → World → Prop} {l : List Oper} {a : Act} {w : World} (hQ : ¬ LetsOut Q) (hd : ∀ o ∈ l, ∀ c, o.op ≠ .defer c)
    (h : wpList P ops Q l a w) : wpListIn Fence.wide n P ops Q l a w := listIn_of (.inl rfl) hQ l a w hd h
def noDefer (l : List Oper) : Bool := l.all (fun o => match o.op with | .defer _ => false | _ => true)
theorem noDefer_spec {l : List Oper} (hd : noDefer l = true) : ∀ o ∈ l, ∀ c, o.op ≠ .defer c := fun o ho c hc => by have := List.all_eq_true.1 hd o ho; rw [hc] at this; cases this
theorem opsIn_wide {ops : Array Oper} {Q : Exit → Act → World → Prop} {l : List Oper} {a : Act} {w : World} (hQ : ¬ LetsOut Q) (hd : noDefer l = true)
    (h : wpList P ops Q l a w) : wpListIn Fence.wide n P ops Q l a w := listIn_wide hQ (noDefer_spec hd) h
theorem regionIn_round {r id : Nat} {Q : Exit → Act → World → Prop} {l : List Oper} {a : Act} {w : World} (hQ : ¬ LetsOut Q) (hd : l.all (fun o => match o.op with | .defer _ => false | _ => true) = true)
    (h : wpList P l.toArray Q l a w) : (Code.region id l.toArray false).wpIn (Fence.wide.inRound r) n P Q a w :=
  wpIn_region_lit (listIn_round hQ (fun o ho c hc => by have := List.all_eq_true.1 hd o ho; rw [hc] at this; cases this) h)
theorem regionIn_wide {id : Nat} {Q : Exit → Act → World → Prop} {l : List Oper} {a : Act} {w : World} (hQ : ¬ LetsOut Q) (hd : l.all (fun o => match o.op with | .defer _ => false | _ => true) = true)
    (h : wpList P l.toArray Q l a w) : (Code.region id l.toArray false).wpIn Fence.wide n P Q a w :=
  wpIn_region_lit (listIn_wide hQ (fun o ho c hc => by have := List.all_eq_true.1 hd o ho; rw [hc] at this; cases this) h)
theorem lets_then {K : Act → World → Prop} {Q : Exit → Act → World → Prop} (h : ¬ LetsOut Q) : ¬ LetsOut (Exit.then K Q) := fun ⟨a, w, h'⟩ => h ⟨a, w, h'⟩
theorem lets_block {id : Nat} {Q : Exit → Act → World → Prop} (h : ¬ LetsOut Q) : ¬ LetsOut (Exit.inBlock id Q) := fun ⟨a, w, h'⟩ => h ⟨a, w, h'⟩
theorem Calls.plain {F : Fence} (hF : F = Fence.wide ∨ ∃ l, F = Fence.wide.inRound l) {m : Nat} {f : FuncId} {args : Array Value} {w : World} {R : Ending → World → Prop} (h : Calls P f args w R) : CallsIn F m P f args w R := by
  rcases hF with rfl | ⟨l, rfl⟩
  · exact callsIn_wide.2 h
  · exact CallsIn.inRound l (callsIn_wide.2 h)
def Iterates {α : Type} (P : Program) (gf : Nat) (lb : Array Value) (encs : α → Array Value) (xs : List α) (w0 : World) (Rd : World → Prop) : Prop :=
  ∀ (l m : Nat) (J : List α → List It → Prop) (Jx : List α → List It → Prop) (W : World) (L : List It), J [] L → Mem w0 W L → (∀ pre L X W, J pre L → pre <+: xs → Mem w0 W (X ++ L) → Rd W) →
    (∀ pre x L X W, J pre L → pre ++ [x] <+: xs → Mem w0 W (X ++ L) → YieldAt Fence.wide m P l (encs x) W fun e W' =>
      (e = .returned (.bool true) ∧ ∃ L', J (pre ++ [x]) L' ∧ Mem w0 W' (X ++ L')) ∨ (e = .returned (.bool false) ∧ ∃ L', Jx (pre ++ [x]) L' ∧ Mem w0 W' (X ++ L'))) →
    CallsIn Fence.wide (m + 1) P gf (#[.func (.yield l) #[] #[]] ++ lb) W fun e W' => (∃ v, e = .returned v) ∧ ((∃ L', J xs L' ∧ Mem w0 W' L') ∨ (∃ pre L', pre <+: xs ∧ Jx pre L' ∧ Mem w0 W' L'))
def roundP {α : Type} (w0 : World) (J : List α → List It → Prop) (Jx : Code → List α → List It → Prop) (xs : List α) (X : List It) : Exit → Act → World → Prop
  | .normal, _, W' => ∃ L', J xs L' ∧ Mem w0 W' (L' ++ X)
  | .ret, _, W' => ∃ L', Jx .ret xs L' ∧ Mem w0 W' (L' ++ X)
  | .exit id, _, W' => ∃ L', Jx (.exit id) xs L' ∧ Mem w0 W' (L' ++ X)
  | .goto t, _, W' => ∃ L', Jx (.goto t) xs L' ∧ Mem w0 W' (L' ++ X)
  | .panic _, _, _ => False
  | .outgrown, _, _ => False
theorem wpIn_rangeFunc_mem {α : Type} {g : Operand} {ps : Array Tmp} {assign body : Code} {Q : Exit → Act → World → Prop} {a : Act} {w0 w : World} {L0 : List It} (hm : n = 2)
    {gf : Nat} {lb : Array Value} (hg : a.eval g = .func (.func gf) #[] lb) (eg : ∀ args w, (callFunc gf args).run P w = .ok (.enter gf args) w)
    {encs : α → Array Value} {xs : List α} {Rd : World → Prop} (hit : Iterates P gf lb encs xs w0 Rd) (hps : ∀ x, (encs x).size = ps.size)
    (J : List α → List It → Prop) (Jx : Code → List α → List It → Prop) (HM : Mem w0 w L0) (h0 : J [] L0) (hRd : ∀ pre L X W, J pre L → pre <+: xs → Mem w0 W (L ++ X) → Rd W)
    (hround : ∀ (l : Nat) (pre : List α) (x : α) (L X : List It) (W1 W : World), J pre L → pre ++ [x] <+: xs → Mem w0 W (L ++ X) →
      assign.wpIn (Fence.wide.inRound l) 0 P (Exit.then (fun a' W' => W' = W1 ∧ body.wpIn (Fence.wide.inRound l) 0 P (roundP w0 J Jx (pre ++ [x]) X) a' W) (fun _ _ _ => False))
        { tmps := (ps.zip (encs x)).foldl (fun t (p, v) => t.setIfInBounds p v) a.tmps, defers := [] } W1)
    (hdone : ∀ (D : Nat) (L : List It) (W : World), J xs L → Mem w0 W (L ++ [.obj D (.deferred (some []))]) → Q .normal { a with defers := { target := .collected D, args := #[] } :: a.defers } W)
    (hstop : ∀ (D : Nat) (c : Code) (pre : List α) (L : List It) (W : World), pre <+: xs → Jx c pre L → Mem w0 W (L ++ [.obj D (.deferred (some []))]) → c.wpIn Fence.wide n P Q { a with defers := { target := .collected D, args := #[] } :: a.defers } W) :
    (Code.rangeFunc g ps assign body).wpIn Fence.wide n P Q a w := by
  subst hm
  refine wpIn_rangeFunc ?_
  intro fn hfn
  obtain ⟨rec, hrec⟩ : ∃ rec : LoopState → Option Code → Loop, rec = fun st pe => { state := st, pending := pe, fn, tmps := a.tmps, params := ps, assign, body, defers := w.heap.size } := ⟨_, rfl⟩
  obtain ⟨W1, hW1⟩ : ∃ W1, (w.alloc (.deferred (some []))).alloc (.loop (rec .ready none)) = W1 := ⟨_, rfl⟩
  have HM1 := (HM.newObj (.deferred (some []))).newObj (.loop (rec .ready none))
  rw [World.size_alloc, hW1] at HM1
  have turn : ∀ {L : List It} {W : World} {st st' : LoopState} {pe pe' : Option Code} (X : List It), Mem w0 W (X ++ .obj (w.heap.size + 1) (.loop (rec st pe)) :: L) →
      W.heap[w.heap.size + 1]? = some (.loop (rec st pe)) ∧ Mem w0 (W.putObj (w.heap.size + 1) (.loop (rec st' pe'))) (X ++ .obj (w.heap.size + 1) (.loop (rec st' pe')) :: L) := by
    intro L W st st' pe pe' X h
    have hl := h.obj (b := w.heap.size + 1) (o := .loop (rec st pe)) (by simp)
    refine ⟨hl, h.turn (x := .obj (w.heap.size + 1) (.loop (rec st pe))) (x' := .obj (w.heap.size + 1) (.loop (rec st' pe'))) ?_ (grownBy_putObj' W _ _) ?_ (fun b hb => .inl hb)⟩
    · clear h
      induction X with
      | nil => exact .here
      | cons x X ih => exact .there ih
    · exact ⟨(h.ok (.obj (w.heap.size + 1) (.loop (rec st pe))) (by simp)).1, World.putObj_heap_same (Array.getElem?_eq_some_iff.1 hl).1⟩
  have mv : ∀ {L X : List It} {x : It} {W : World}, Mem w0 W (X ++ x :: L) → Mem w0 W (x :: (X ++ L)) := fun h => h.perm List.perm_middle
  have vm : ∀ {L X : List It} {x : It} {W : World}, Mem w0 W (x :: (X ++ L)) → Mem w0 W (X ++ x :: L) := fun h => h.perm List.perm_middle.symm
  refine ⟨w.heap.size + 1, [{ target := .collected w.heap.size, args := #[] }], W1, { target := .fn (.func gf) lb, args := #[.func (.yield (w.heap.size + 1)) #[] #[]] }, W1, gf,
    #[.func (.yield (w.heap.size + 1)) #[] #[]] ++ lb, W1, ?_, ?_, ?_, ?_, fun h => (by cases h), ?_⟩
  · rw [← hW1, hrec]; exact run_enterLoop_outer _ _ _ _ _
  · simp only [resolve, hg]
    simp [go_sem]
  · exact fun _ _ => trivial
  · simp [invoke, go_sem, eg]
  · refine (hit (w.heap.size + 1) 0
      (fun pre L => ∃ L1, J pre L1 ∧ L = .obj (w.heap.size + 1) (.loop (rec .ready none)) :: .obj w.heap.size (.deferred (some [])) :: L1)
      (fun pre L => ∃ c L1, Jx c pre L1 ∧ L = .obj (w.heap.size + 1) (.loop (rec .done (some c))) :: .obj w.heap.size (.deferred (some [])) :: L1)
      W1 _ ⟨L0, h0, rfl⟩ HM1 ?_ ?_).mono ?_
    · rintro pre L X W ⟨L1, hj, rfl⟩ hp hM
      refine hRd pre L1 (X ++ [.obj (w.heap.size + 1) (.loop (rec .ready none)), .obj w.heap.size (.deferred (some []))]) W hj hp (hM.perm ?_)
      refine List.Perm.trans (l₂ := (X ++ [.obj (w.heap.size + 1) (.loop (rec .ready none)), .obj w.heap.size (.deferred (some []))]) ++ L1) ?_ List.perm_append_comm
      simp
    · rintro pre x L X W ⟨L1, hj, rfl⟩ hp hM
      obtain ⟨hl, hM2⟩ := turn (st' := .busy) (pe' := none) X hM
      have hy := run_yield (P := P) (args := encs x) hl (by rw [hrec]; exact hps x)
      rw [hrec] at hy
      have hM3 : Mem w0 (W.putObj (w.heap.size + 1) (.loop { rec .ready none with state := .busy })) (L1 ++ (X ++ [.obj (w.heap.size + 1) (.loop (rec .busy none)), .obj w.heap.size (.deferred (some []))])) := by
        have e : (.loop { rec .ready none with state := .busy } : Obj) = .loop (rec .busy none) := by rw [hrec]
        rw [e]
        refine hM2.perm ?_
        refine List.Perm.trans (l₂ := (X ++ [.obj (w.heap.size + 1) (.loop (rec .busy none)), .obj w.heap.size (.deferred (some []))]) ++ L1) ?_ List.perm_append_comm
        simp
      have back : ∀ {L' : List It} {W' : World}, Mem w0 W' (L' ++ (X ++ [.obj (w.heap.size + 1) (.loop (rec .busy none)), .obj w.heap.size (.deferred (some []))])) →
          Mem w0 W' (X ++ .obj (w.heap.size + 1) (.loop (rec .busy none)) :: .obj w.heap.size (.deferred (some [])) :: L') := by
        intro L' W' h
        refine h.perm ?_
        refine List.Perm.trans List.perm_append_comm ?_
        simp
      have fin : ∀ (jump : Option Code) {L' : List It} {W3 : World}, Mem w0 W3 (L' ++ (X ++ [.obj (w.heap.size + 1) (.loop (rec .busy none)), .obj w.heap.size (.deferred (some []))])) →
          (Instr.endRound (w.heap.size + 1) jump).run P W3 = .ok (.bool jump.isNone) (W3.putObj (w.heap.size + 1) (.loop (rec (if jump.isNone then .ready else .done) jump))) ∧
          Mem w0 (W3.putObj (w.heap.size + 1) (.loop (rec (if jump.isNone then .ready else .done) jump))) (X ++ .obj (w.heap.size + 1) (.loop (rec (if jump.isNone then .ready else .done) jump)) :: .obj w.heap.size (.deferred (some [])) :: L') := by
        intro jump L' W3 h
        obtain ⟨hl3, hM4⟩ := turn (st' := if jump.isNone then .ready else .done) (pe' := jump) X (back h)
        refine ⟨?_, hM4⟩
        have := run_endRound (P := P) jump hl3
        rw [hrec] at this ⊢
        exact this
      have hbeg := run_beginRound (P := P) hl (by rw [hrec])
      refine ⟨fn, _, assign, body, hy, roundIn_of_wpIn trivial (wpIn_mono (hround _ pre x L1 _ W _ hj hp hM3) ?_)⟩
      rintro e1 a1 W1' h1
      cases e1 with
      | normal => ?_
      | ret => exact h1.elim
      | exit id => exact h1.elim
      | goto t => exact h1.elim
      | panic ch => exact h1.elim
      | outgrown => exact h1.elim
      obtain ⟨rfl, hb1⟩ := h1
      refine ⟨_, hbeg, wpIn_mono hb1 ?_⟩
      rintro e a3 W3 hp3
      cases e with
      | normal =>
        obtain ⟨L', hj', hM'⟩ := hp3
        obtain ⟨hr, hM4⟩ := fin none hM'
        exact ⟨_, _, hr, .inl ⟨rfl, _, ⟨L', hj', rfl⟩, hM4⟩⟩
      | ret =>
        obtain ⟨L', hj', hM'⟩ := hp3
        obtain ⟨hr, hM4⟩ := fin (some .ret) hM'
        exact ⟨_, _, hr, .inr ⟨rfl, _, ⟨.ret, L', hj', rfl⟩, hM4⟩⟩
      | exit id =>
        obtain ⟨L', hj', hM'⟩ := hp3
        obtain ⟨hr, hM4⟩ := fin (some (.exit id)) hM'
        exact ⟨_, _, hr, .inr ⟨rfl, _, ⟨.exit id, L', hj', rfl⟩, hM4⟩⟩
      | goto t =>
        obtain ⟨L', hj', hM'⟩ := hp3
        obtain ⟨hr, hM4⟩ := fin (some (.goto t)) hM'
        exact ⟨_, _, hr, .inr ⟨rfl, _, ⟨.goto t, L', hj', rfl⟩, hM4⟩⟩
      | panic ch => exact hp3.elim
      | outgrown => exact hp3.elim
    · have last : ∀ {L' : List It} {W' : World} {o : Obj}, Mem w0 W' (.obj (w.heap.size + 1) o :: .obj w.heap.size (.deferred (some [])) :: L') → Mem w0 W' (L' ++ [.obj w.heap.size (.deferred (some []))]) :=
        fun h => h.tail.perm (List.perm_append_comm (l₁ := [_]))
      rintro e W2 ⟨⟨v, rfl⟩, (⟨_, ⟨L', hj', rfl⟩, hM'⟩ | ⟨pre, _, hpre, ⟨c, L', hj', rfl⟩, hM'⟩)⟩
      · obtain ⟨hl, hM2⟩ := turn (st' := .exhausted) (pe' := none) [] hM'
        exact ⟨none, _, by have := run_endLoop (P := P) hl (by rw [hrec]; simp); rw [hrec] at this; exact this, hdone _ L' _ hj' (by rw [hrec] at hM2; exact last hM2)⟩
      · obtain ⟨hl, hM2⟩ := turn (st' := .exhausted) (pe' := some c) [] hM'
        exact ⟨some c, _, by have := run_endLoop (P := P) hl (by rw [hrec]; simp); rw [hrec] at this; exact this, hstop _ c pre L' _ hpre hj' (by rw [hrec] at hM2; exact last hM2)⟩
theorem lets_round {α : Type} {w0 : World} {J : List α → List It → Prop} {Jx : Code → List α → List It → Prop} {xs : List α} {X : List It} : ¬ LetsOut (roundP w0 J Jx xs X) := fun ⟨_, _, h⟩ => h
theorem wp_rangeFunc_mem {α : Type} {g : Operand} {ps : Array Tmp} {assign body : Code} {Q : Exit → Act → World → Prop} {a : Act} {w0 w : World} {L0 : List It}
    {gf : Nat} {lb : Array Value} (hg : a.eval g = .func (.func gf) #[] lb) (eg : ∀ args w, (callFunc gf args).run P w = .ok (.enter gf args) w)
    {encs : α → Array Value} {xs : List α} {Rd : World → Prop} (hit : Iterates P gf lb encs xs w0 Rd) (hps : ∀ x, (encs x).size = ps.size)
    (J : List α → List It → Prop) (Jx : Code → List α → List It → Prop) (HM : Mem w0 w L0) (h0 : J [] L0) (hRd : ∀ pre L X W, J pre L → pre <+: xs → Mem w0 W (L ++ X) → Rd W)
    (hround : ∀ (l : Nat) (pre : List α) (x : α) (L X : List It) (W1 W : World), J pre L → pre ++ [x] <+: xs → Mem w0 W (L ++ X) →
      assign.wpIn (Fence.wide.inRound l) 0 P (Exit.then (fun a' W' => W' = W1 ∧ body.wpIn (Fence.wide.inRound l) 0 P (roundP w0 J Jx (pre ++ [x]) X) a' W) (fun _ _ _ => False))
        { tmps := (ps.zip (encs x)).foldl (fun t (p, v) => t.setIfInBounds p v) a.tmps, defers := [] } W1)
    (hdone : ∀ (D : Nat) (L : List It) (W : World), J xs L → Mem w0 W (L ++ [.obj D (.deferred (some []))]) → Q .normal { a with defers := { target := .collected D, args := #[] } :: a.defers } W)
    (hstop : ∀ (D : Nat) (c : Code) (pre : List α) (L : List It) (W : World), pre <+: xs → Jx c pre L → Mem w0 W (L ++ [.obj D (.deferred (some []))]) → c.wp P Q { a with defers := { target := .collected D, args := #[] } :: a.defers } W) :
    (Code.rangeFunc g ps assign body).wp P Q a w :=
  wpIn_wide.1 (wpIn_rangeFunc_mem (n := 2) rfl hg eg hit hps J Jx HM h0 hRd hround hdone (fun D c pre L W h1 h2 h3 => wpIn_wide.2 (hstop D c pre L W h1 h2 h3)))
theorem calls_of_marks {f : FuncId} {fn : Func} {c : Code} {args : Array Value} {w : World} {R : Ending → World → Prop}
    (hf : P.funcs[f]? = some fn) (hb : fn.body = some c)
    (h : c.wp P (bodyPostM Fence.wide 2 P fn R) { tmps := args ++ Array.replicate (fn.ntmps - args.size) undef, defers := [] } w) : Calls P f args w R :=
  callsIn_wide.1 (callsIn_of_wp_marks hf hb trivial (wpIn_wide.2 h))
theorem leaves_mark {fn : Func} {R : Ending → World → Prop} {a : Act} {w0 w : World} {L : List It} {f : It → List It} {D : Nat} (hd : a.defers = [{ target := .collected D, args := #[] }]) (HM : Mem w0 w L)
    (hk : Spot (.obj D (.deferred (some []))) L f) (h : ∀ W, Mem w0 W (f (.obj D (.deferred none))) → bodyPost P fn R .ret { a with defers := [] } W) : bodyPostM Fence.wide 2 P fn R .ret a w := by
  have hk' := HM.obj hk.mem
  have HM' : Mem w0 (w.putObj D (.deferred none)) (f (.obj D (.deferred none))) :=
    HM.turn (hk.repl _) (grownBy_putObj' w D _) ⟨(HM.ok _ hk.mem).1, World.putObj_heap_same (Array.getElem?_eq_some_iff.1 hk').1⟩ (fun b hb => .inl hb)
  obtain ⟨_, v, hv, hR⟩ := h _ HM'
  show LeavesInM Fence.wide 2 P fn a.tmps R a.defers .returning w
  rw [hd]
  exact ⟨by simp, .inl ⟨_, _, rfl, run_takeDeferred hk', v, hv, hR⟩⟩
end
end
section
set_option linter.unusedVariables false
set_option linter.unusedSimpArgs false
open Go.RowKit
set_option maxHeartbeats 400000 in
theorem keys_c (k : Key) (w : World) :
    Calls Try.prog 107 #[.agg (kc k)] w fun e w' => ∃ b, e = .returned (.func (.func 143) #[] #[.pointer (some ⟨b, 0, none⟩)]) ∧ Mem w w' [.blk b (kc k) 23] := by
  have HM := Mem.start w
  go_enter Try.func107, Try.ntmps107
  go_wp2_with (first
    | ((with_reducible refine s_ 1 ?_); go_must (refine wl_box (dst := some 1) (cs := kc k) _ _ _ rfl rfl HM ?_; clear HM; intro b1 W HM)))
  refine ret1 rfl (res_tmp rfl) rfl ?_
  exact ⟨_, rfl, HM⟩
abbrev encKey (x : Int × UInt64) : Array Value := #[.int .i64 x.1, .int .u64 x.2.toNat]
def keySeq (k : Key) : List (Int × UInt64) := (List.range 32).map fun (i : Nat) => ((i : Int), (keyAt k i).2)
set_option maxHeartbeats 800000 in
theorem keys_it (k : Key) (bk : Nat) (w0 : World) :
    Iterates Try.prog 143 #[.pointer (some ⟨bk, 0, none⟩)] encKey (keySeq k) w0 (fun W => W.heap[bk]? = some (.cells (kc k) 23 (0, 0))) := by
  intro l m J Jx W L h0 HM hRd hY
  have hk0 : W.heap[bk]? = some (.cells (kc k) 23 (0, 0)) := hRd [] L [] W h0 (by simp) HM
  refine callsIn_of_wp Try.func143 rfl trivial ?_
  simp only [Try.ntmps143, List.size_toArray, List.length_cons, List.length_nil, Nat.reduceAdd, Nat.reduceSub, Array.replicate_succ, Array.replicate_zero, List.push_toArray, List.append_toArray, List.nil_append, List.cons_append]
  have hQ : ∀ R : World → Prop, ¬ LetsOut (bodyPost Try.prog Try.f143 (fun e W' => (∃ v, e = .returned v) ∧ R W')) := by rintro R ⟨_, _, ⟨v, hv⟩, _⟩; cases hv
  refine wpIn_seq (regionIn_wide (lets_then (hQ _)) (by rfl) ?_)
  go_wp2_with (first
    | ((with_reducible refine s_ 5 ?_); go_must ((refine wl_load_heap (dst := some 5) _ _ _ _ _ _ rfl hk0 Try.underlying23 rfl (by rw [kc_size]; exact sz23) ?_)))
    | ((with_reducible refine s_ 3 ?_); go_must (refine wl_alloc (dst := some 3) (cs := #[Value.int IntKind.u64 0, Value.int IntKind.u64 0]) 161 _ Try.zeroValue161 rfl HM ?_; clear HM; intro b3 W HM))
    | ((with_reducible refine st_ 161 ?_); go_must ((refine wl_store_blk _ _ _ _ _ _ _ rfl rfl HM .here sz161 rfl (by simp [Value.oneCell']) ?_); clear HM; intro W HM))
    | (go_at_call 106; go_must (((with_reducible refine (wordsOf_c _ _).mono ?_)); rintro e W ⟨rfl, HM'⟩; replace HM := HM.keep HM'.below; clear HM')))
  gi_wp2
  gi_loopw [7] (fun i wr => ∃ (j : Nat) (L : List It), j ≤ 32 ∧ i = .int .i64 j ∧ J ((keySeq k).take j) L ∧ Mem w0 wr (.blk b3 (pairC (keyAt k j)) 161 :: L))
    (fun i _ => 32 - (intOf i).toNat)
  case atStart => exact ⟨0, L, by omega, rfl, h0, HM⟩
  case round =>
    clear HM
    obtain ⟨j, L, hj, rfl, hJ, HM⟩ := hrel
    by_cases hlt : j < 32
    · have hlen : (keySeq k).length = 32 := by simp [keySeq]
      have hat : (keySeq k)[j]'(by omega) = ((j : Int), (keyAt k j).2) := by simp [keySeq]
      have htk : (keySeq k).take (j + 1) = (keySeq k).take j ++ [((j : Int), (keyAt k j).2)] := by rw [List.take_succ_eq_append_getElem (by omega), hat]
      have hc1 : wr.cell? ⟨b3, 1, none⟩ = some (.int .u64 (keyAt k j).2.toNat) := by rw [cell_of_row wr b3 1 _ _ (0, 0) (HM.blk m0)]; rfl
      obtain ⟨fn, tmps, assign, body, hy, hR⟩ := hY _ ((j : Int), (keyAt k j).2) L [.blk b3 (pairC (keyAt k j)) 161] wr hJ (by rw [← htk]; exact List.take_prefix _ _) HM
      gi_wp2
      refine hR.mono ?_
      rintro e W3 (⟨rfl, L', hJ', HM'⟩ | ⟨rfl, L', hJ', HM'⟩)
      · clear hc1 hy hR
        clear HM
        have HM : Mem w0 W3 (.blk b3 (pairC (keyAt k j)) 161 :: L') := HM'
        clear HM'
        have hw : (j : Int) % 18446744073709551616 = (j : Int) := by omega
        have hr : ∀ W, Calls Try.prog 108 #[pairV (keyAt k j), .int .u64 (j : Int)] W fun e w' => e = .returned (pairV (roundF (keyAt k j) (UInt64.ofNat j))) ∧ Mem W w' [] := by
          intro W
          have e : (j : Int) = ((UInt64.ofNat j).toNat : Int) := by rw [UInt64.toNat_ofNat']; omega
          have := round_c (keyAt k j) (UInt64.ofNat j) W
          rwa [← e] at this
        gi_wp2_with (with_reducible show wpListIn _ _ _ _ _ (Oper.mk (some 16) _ _ _ _ _ :: _) _ _; go_must (refine opsIn_wide (by repeat (first | exact hQ _ | refine lets_then ?_ | refine lets_block ?_)) rfl ?_))
        go_wp2_with (first
          | ((with_reducible refine st_ 161 ?_); go_must ((refine wl_store_blk _ _ _ _ _ _ _ rfl rfl HM .here sz161 rfl (by simp [Value.oneCell']) ?_); clear HM; intro W HM))
          | ((with_reducible refine ld_ 161 ?_); go_must (refine wl_load_blk _ _ _ _ _ _ rfl HM (by repeat first | exact List.mem_cons_self .. | refine List.mem_cons_of_mem _ ?_) Try.underlying161 rfl (by exact sz161) ?_))
          | (go_at_call 108; go_must (((with_reducible refine (hr _).mono ?_)); rintro e W ⟨rfl, HM'⟩; replace HM := HM.keep HM'.below; clear HM')))
        gi_wp2
        go_roundw
        case rel => exact ⟨j + 1, L', by omega, by go_num, by rw [htk]; exact hJ', HM⟩
        case measure => simp [intOf]; omega
      · gi_wp2
        refine bodyPost_ret (results_none rfl _ _ _) rfl ?_
        exact ⟨⟨_, rfl⟩, .inr ⟨_, L', by rw [← htk]; exact List.take_prefix _ _, hJ', HM'.tail⟩⟩
    · obtain rfl : j = 32 := by omega
      have e : (keySeq k).take 32 = keySeq k := List.take_of_length_le (by simp [keySeq])
      rw [e] at hJ
      gi_wp2
      go_end0
      exact ⟨⟨_, rfl⟩, .inl ⟨L, hJ, HM.tail⟩⟩
theorem keySeq_fold (k : Key) (p : UInt64 × UInt64) : (keySeq k).foldl (fun p x => roundF p x.2) p = (keyList k).foldl roundF p := by
  simp only [keySeq, keyList, List.foldl_map]
set_option maxHeartbeats 800000 in
theorem encrypt_c (k b : Key) (w : World) :
    Calls Try.prog 53 #[.agg (kc k), .agg (kc b)] w fun e w' => e = .returned (.agg (kc (encryptK k b))) ∧ Mem w w' [] := by
  have HM := Mem.start w
  refine calls_of_marks Try.func53 rfl ?_
  simp only [Try.ntmps53, List.size_toArray, List.length_cons, List.length_nil, Nat.reduceAdd, Nat.reduceSub, Array.replicate_succ, Array.replicate_zero, List.push_toArray, List.append_toArray, List.nil_append, List.cons_append]
  go_wp2_with (first
    | ((with_reducible refine s_ 2 ?_); go_must (refine wl_box (dst := some 2) (cs := kc k) _ _ _ rfl rfl HM ?_; clear HM; intro b2 W HM))
    | ((with_reducible refine s_ 3 ?_); go_must (refine wl_box (dst := some 3) (cs := kc b) _ _ _ rfl rfl HM ?_; clear HM; intro b3 W HM))
    | ((with_reducible refine s_ 4 ?_); go_must (refine wl_alloc (dst := some 4) (cs := kc zeroKey) 23 _ Try.zeroValue23 kc_zero HM ?_; clear HM; intro b4 W HM))
    | ((with_reducible refine s_ 5 ?_); go_must (refine wl_alloc (dst := some 5) (cs := #[Value.int IntKind.u64 0, Value.int IntKind.u64 0]) 161 _ Try.zeroValue161 rfl HM ?_; clear HM; intro b5 W HM))
    | ((with_reducible refine ld_ 23 ?_); go_must (refine wl_load_blk _ _ _ _ _ _ rfl HM (by repeat first | exact List.mem_cons_self .. | refine List.mem_cons_of_mem _ ?_) Try.underlying23 rfl (by rw [kc_size]; exact sz23) ?_))
    | ((with_reducible refine st_ 161 ?_); go_must ((refine wl_store_blk _ _ _ _ _ _ _ rfl rfl HM .here sz161 rfl (by simp [Value.oneCell']) ?_); clear HM; intro W HM))
    | (go_at_call 106; go_must (((with_reducible refine (wordsOf_c _ _).mono ?_)); rintro e W ⟨rfl, HM'⟩; replace HM := HM.keep HM'.below; clear HM'))
    | (go_at_call 107; go_must (((with_reducible refine (keys_c _ _).mono ?_)); rintro e W ⟨bk, rfl, HM'⟩; replace HM := HM.join HM'; clear HM'; simp only [List.cons_append, List.nil_append] at HM)))
  refine wp_rangeFunc_mem (encs := encKey) rfl (enters_of Try.func143 (by kernel_rfl) rfl) (keys_it k bk w) (fun _ => rfl)
    (fun pre L => L = [.blk bk (kc k) 23, .blk b5 (pairC (pre.foldl (fun p x => roundF p x.2) (wordsK b))) 161, .blk b4 (kc zeroKey) 23, .blk b3 (kc b) 23, .blk b2 (kc k) 23])
    (fun _ _ _ => False) HM rfl ?rd ?round ?done ?stop
  case rd =>
    rintro pre L X W rfl hp hM
    exact hM.blk m0
  case round =>
    rintro l pre ⟨i, x⟩ L X W1 W rfl hp HM
    refine regionIn_round (fun ⟨_, _, h⟩ => h) rfl ?_
    go_wp2
    refine ⟨trivial, ?_⟩
    simp only [List.cons_append, List.nil_append] at HM
    refine wpIn_block (regionIn_round (lets_block lets_round) rfl ?_)
    go_wp2_with (first
      | ((with_reducible refine st_ 161 ?_); go_must ((refine wl_store_blk _ _ _ _ _ _ _ rfl rfl HM (.there .here) sz161 rfl (by simp [Value.oneCell']) ?_); clear HM; intro W HM))
      | ((with_reducible refine ld_ 161 ?_); go_must (refine wl_load_blk _ _ _ _ _ _ rfl HM (by repeat first | exact List.mem_cons_self .. | refine List.mem_cons_of_mem _ ?_) Try.underlying161 rfl (by exact sz161) ?_))
      | (go_at_call 108; go_must (((with_reducible refine (round_c _ _ _).mono ?_)); rintro e W ⟨rfl, HM'⟩; replace HM := HM.keep HM'.below; clear HM')))
    refine ⟨_, rfl, ?_⟩
    rw [List.foldl_append]
    exact HM
  case done =>
    rintro D L W rfl HM
    simp only [List.cons_append, List.nil_append, keySeq_fold] at HM
    go_wp2_with (first
      | ((with_reducible refine ld_ 161 ?_); go_must (refine wl_load_blk _ _ _ _ _ _ rfl HM (by repeat first | exact List.mem_cons_self .. | refine List.mem_cons_of_mem _ ?_) Try.underlying161 rfl (by exact sz161) ?_))
      | ((with_reducible refine st_ 23 ?_); go_must ((refine wl_store_blk _ _ _ _ _ _ _ rfl rfl HM (.there (.there .here)) (by rw [kc_size]; exact sz23) (by simp only [kc_size]) (kc_one _) ?_); clear HM; intro W HM))
      | (go_at_call 109; go_must (((with_reducible refine (block_c _ _).mono ?_)); rintro e W ⟨rfl, HM'⟩; replace HM := HM.keep HM'.below; clear HM')))
    refine leaves_mark rfl HM (.there (.there (.there (.there (.there .here))))) ?_
    intro W HM
    refine ret1 rfl (by (exact res_row HM rfl m2 Try.underlying23 rfl (by rw [kc_size]; exact sz23))) rfl ?_
    exact ⟨rfl, HM.base⟩
  case stop =>
    exact fun _ _ _ _ _ _ h => h.elim
end
section
set_option linter.unusedVariables false
set_option linter.unusedSimpArgs false
open Go.RowKit
theorem Mem.only {w0 W : World} {L : List It} (h : Mem w0 W L) {x : It} (hk : x ∈ L) : Mem w0 W [x] := h.sub (List.singleton_sublist.2 hk)
theorem orU_comm (a b : UInt64) : orU a b = orU b a := UInt64.or_comm a b
section
attribute [local go_sem] bx64 bo64 w64_8 wa64 ws64 w8_64
set_option maxHeartbeats 400000 in
theorem rotr_any (x : UInt64) (n : Int) (s : Nat) (hn : n = (s : Int)) (hs : 0 < s) (hs' : s < 64) (w : World) :
    Calls Try.prog 117 #[.int .u64 x.toNat, .int .i64 n] w fun e w' => e = .returned (.int .u64 (rotl x (64 - s)).toNat) ∧ Mem w w' [] := by
  subst hn
  have HM := Mem.start w
  have h1 : IntKind.u64.wrap ((x.toNat : Int) * 2 ^ (64 - s)) = ((shlU x (64 - s)).toNat : Int) := shl64 x (64 - s) (by omega)
  have h2 : (x.toNat : Int) / 2 ^ s = ((shrU x s).toNat : Int) := shr64 x s hs'
  have h3 : IntKind.i64.wrap (64 - (s : Int)) = 64 - (s : Int) := by rw [IntKind.wrap_i64]; omega
  have h4 : (64 - (s : Int)).toNat = 64 - s := by omega
  have h5 : 0 ≤ 64 - (s : Int) := by omega
  go_enter Try.func117, Try.ntmps117
  go_wp2_with (fail)
  replace HM := HM.drew
  refine wp_region_mixN (fun W => Held w W []) (fun W => Held w W []) (.cons (2, 0) (.cons (2, 1) (.cons (2, 2) (.cons (2, 3) (.cons (2, 4) (.cons (2, 5) (.cons (2, 6) (.cons (2, 7) (.cons (2, 8) .nil))))))))) [] (by kernel_rfl) (by kernel_rfl) (by kernel_rfl) (fun W h => Held.weak h (by simp)) (HM.held (by simp)) ?_
  revert HM; generalize World.drew _ = W; intro HM
  have HS1 : Held w W [] := HM.held (by simp)
  have HS2 : Held w W [] := HM.held (by simp)
  refine wm_q2 (i := 0) (some 5) rfl rfl rfl HS2 (fun W HS => by (go_simp; try with_reducible rfl)) ?_
  simp only [Act.put, List.getElem_toArray, List.getElem_cons_succ, List.getElem_cons_zero, List.setIfInBounds_toArray, List.set_cons_succ, List.set_cons_zero]
  refine wm_q2 (i := 1) (some 6) rfl rfl rfl HS2 (fun W HS => by (go_simp; try with_reducible rfl)) ?_
  simp only [Act.put, List.getElem_toArray, List.getElem_cons_succ, List.getElem_cons_zero, List.setIfInBounds_toArray, List.set_cons_succ, List.set_cons_zero]
  refine wm_q2 (i := 2) (some 7) rfl rfl rfl HS2 (fun W HS => by (go_simp; try with_reducible rfl)) ?_
  simp only [Act.put, List.getElem_toArray, List.getElem_cons_succ, List.getElem_cons_zero, List.setIfInBounds_toArray, List.set_cons_succ, List.set_cons_zero]
  refine wm_q2 (i := 3) (some 8) rfl rfl rfl HS2 (fun W HS => by (go_simp; try with_reducible rfl)) ?_
  simp only [Act.put, List.getElem_toArray, List.getElem_cons_succ, List.getElem_cons_zero, List.setIfInBounds_toArray, List.set_cons_succ, List.set_cons_zero]
  refine wm_q2 (i := 4) (some 9) rfl rfl rfl HS2 (fun W HS => by (go_simp; try with_reducible rfl)) ?_
  simp only [Act.put, List.getElem_toArray, List.getElem_cons_succ, List.getElem_cons_zero, List.setIfInBounds_toArray, List.set_cons_succ, List.set_cons_zero]
  refine wm_q2 (i := 5) (some 10) rfl rfl rfl HS2 (fun W HS => by (go_simp; try with_reducible rfl)) ?_
  simp only [Act.put, List.getElem_toArray, List.getElem_cons_succ, List.getElem_cons_zero, List.setIfInBounds_toArray, List.set_cons_succ, List.set_cons_zero]
  refine wm_q2 (i := 6) (some 11) rfl rfl rfl HS2 (fun W HS => by (go_simp; try with_reducible rfl)) ?_
  simp only [Act.put, List.getElem_toArray, List.getElem_cons_succ, List.getElem_cons_zero, List.setIfInBounds_toArray, List.set_cons_succ, List.set_cons_zero]
  refine wm_q2 (i := 7) (some 12) rfl rfl rfl HS2 (fun W HS => by (go_simp; try with_reducible rfl)) ?_
  simp only [Act.put, List.getElem_toArray, List.getElem_cons_succ, List.getElem_cons_zero, List.setIfInBounds_toArray, List.set_cons_succ, List.set_cons_zero]
  refine wm_q2 (i := 8) (some 4) rfl rfl rfl HS2 (fun W HS => by (go_simp; try with_reducible rfl)) ?_
  simp only [Act.put, List.getElem_toArray, List.getElem_cons_succ, List.getElem_cons_zero, List.setIfInBounds_toArray, List.set_cons_succ, List.set_cons_zero]
  refine wm_nilN ?_
  clear HS1 HS2
  go_wp2_with (fail)
  refine ret1 rfl (res_tmp rfl) rfl ?_
  refine ⟨?_, HM⟩
  rw [rotl, show 64 - (64 - s) = s by omega, orU_comm (shlU _ _)]; rfl
end
theorem rotr_8 (x : UInt64) (w : World) : Calls Try.prog 117 #[.int .u64 x.toNat, .int .i64 8] w fun e w' => e = .returned (.int .u64 (rotl x 56).toNat) ∧ Mem w w' [] := rotr_any x 8 8 rfl (by decide) (by decide) w
theorem rotr_61 (x : UInt64) (w : World) : Calls Try.prog 117 #[.int .u64 x.toNat, .int .i64 61] w fun e w' => e = .returned (.int .u64 (rotl x 3).toNat) ∧ Mem w w' [] := rotr_any x 61 61 rfl (by decide) (by decide) w
theorem rotl_3 (x : UInt64) (w : World) : Calls Try.prog 118 #[.int .u64 x.toNat, .int .i64 3] w fun e w' => e = .returned (.int .u64 (rotl x 3).toNat) ∧ Mem w w' [] := by
  have HM := Mem.start w
  go_enter Try.func118, Try.ntmps118
  go_wp2_with (first
    | (go_at_call 117; go_must (((with_reducible refine (rotr_61 _ _).mono ?_)); rintro e W ⟨rfl, HM'⟩; replace HM := HM.keep HM'.below; clear HM')))
  refine ret1 rfl (res_tmp rfl) rfl ?_
  exact ⟨rfl, HM⟩
theorem wordStep (n : UInt64) (b : UInt8) : IntKind.u64.wrap (IntKind.u64.wrap (256 * (n.toNat : Int)) + (b.toNat : Int)) = ((orU (shlU n 8) (ofB b)).toNat : Int) := by
  have hb : b.toNat < 256 := b.toNat_lt
  have hn := u64_lt n
  have e1 : (orU (shlU n 8) (ofB b)).toNat = (n.toNat * 256 + b.toNat) % 18446744073709551616 := by
    rw [orU, shlU, ofB, UInt64.toNat_or, UInt64.toNat_shiftLeft, UInt8.toNat_toUInt64]
    have h8 : (UInt64.ofNat 8).toNat % 64 = 8 := by decide
    rw [h8]
    have h1 : n.toNat <<< 8 % 2 ^ 64 = (n.toNat % 2 ^ 56) <<< 8 := by
      rw [Nat.shiftLeft_eq, Nat.shiftLeft_eq]; omega
    rw [h1, ← Nat.shiftLeft_add_eq_or_of_lt (by omega), Nat.shiftLeft_eq]
    omega
  rw [e1, IntKind.wrap_u64, IntKind.wrap_u64]
  omega
set_option maxHeartbeats 400000 in
theorem value_c (v : Value) (l : List UInt8) (w : World) (hR : RdL encB 1 w v l) (hl : l.length ≤ 1073741824) :
    Calls Try.prog 146 #[v] w fun e w' => e = .returned (.int .u64 (wordL l).toNat) ∧ Mem w w' [] := by
  have HM := Mem.start w
  go_enter Try.func146, Try.ntmps146
  go_wp2_with (fail)
  go_loopw [3, 4] (fun n i wr => ∃ j : Nat, j ≤ l.length ∧ i = .int .i64 j ∧ n = .int .u64 (wordL (l.take j)).toNat ∧ Mem w wr [])
    (fun _ i _ => l.length - (intOf i).toNat)
  case atStart => exact ⟨0, by omega, rfl, rfl, HM⟩
  case round =>
    clear HM
    obtain ⟨j, hj, rfl, rfl, HM⟩ := hrel
    by_cases hlt : j < l.length
    · have hx : l[j]? = some l[j] := List.getElem?_eq_getElem hlt
      have hw := wordStep (wordL (l.take j)) l[j]
      have hw1 : IntKind.u64.wrap (l[j].toNat : Int) = (l[j].toNat : Int) := by rw [IntKind.wrap_u64]; have := l[j].toNat_lt; omega
      have e2 := wordL_take l j hlt
      rw [← e2] at hw
      go_wp2_with (first
        | ((with_reducible refine s_ 7 ?_); go_must ((refine wl_len (dst := some 7) _ _ _ _ 5 Try.underlying24 rfl (hR.mem HM) ?_)))
        | ((with_reducible refine s_ 15 ?_); go_must ((refine wl_index (dst := some 15) _ 5 _ _ _ _ _ _ _ encB_len Try.underlying24 sz5 rfl rfl (hR.mem HM) (by omega) (by first | assumption | simp [*]) ?_); intro p15 hp15))
        | ((with_reducible refine s_ 16 ?_); go_must (refine wl_load_at1 (dst := some 16) _ _ _ _ _ rfl hp15 Try.underlying5 rfl ?_)))
      go_roundw
      case rel => exact ⟨j + 1, by omega, by go_num, by rw [e2], HM⟩
      case measure => simp [intOf]; omega
    · obtain rfl : j = l.length := by omega
      rw [List.take_length]
      go_wp2_with (first
        | ((with_reducible refine s_ 7 ?_); go_must ((refine wl_len (dst := some 7) _ _ _ _ 5 Try.underlying24 rfl (hR.mem HM) ?_))))
      refine ret1 rfl (res_tmp rfl) rfl ?_
      exact ⟨rfl, HM⟩
theorem rd_part {W w0 : World} {L : List It} {b : Nat} {k : Key} {t : TypeId} (hM : Mem w0 W L) (hk : It.blk b (kc k) t ∈ L) (i n c : Nat) (hn : i + n ≤ 16) (hc : n ≤ c) (hcm : c ≤ maxLen) :
    RdL encB 1 W (.slice (some ⟨b, i, none⟩) n c) ((k.toList.drop i).take n) := by
  have hlen : ((k.toList.drop i).take n).length = n := by simp; omega
  refine ⟨some ⟨b, i, none⟩, c, by rw [hlen], by omega, hcm, fun _ => ⟨b, i, rfl, fun j v hv => ?_⟩⟩
  rw [cell_of_row W b (i + j) _ t _ (hM.blk hk)]
  have h1 : ((k.toList.drop i).take n).flatMap encB = ((kc k).toList.drop i).take n := by
    rw [flatMap_take encB_len, flatMap_drop encB_len, kc_toList, encK]; simp
  rw [h1, List.getElem?_take, List.getElem?_drop] at hv
  split at hv
  · rw [← Array.getElem?_toList]; exact hv
  · cases hv
set_option maxHeartbeats 400000 in
theorem words_c (k : Key) (w : World) :
    Calls Try.prog 115 #[.agg (kc k)] w fun e w' => e = .returned (.tuple #[.int .u64 (wordsK k).1.toNat, .int .u64 (wordsK k).2.toNat]) ∧ Mem w w' [] := by
  have HM := Mem.start w
  go_enter Try.func115, Try.ntmps115
  go_wp2_with (first
    | ((with_reducible refine s_ 1 ?_); go_must (refine wl_box (dst := some 1) (cs := kc k) _ _ _ rfl rfl HM ?_; clear HM; intro b1 W HM)))
  replace HM := HM.drew
  refine wp_region_mixN (fun W => Held w W [.blk b1 (kc k) 23]) (fun W => Held w W [.blk b1 (kc k) 23]) (.cons (2, 0) (.cons (2, 2) (.cons (0, 1) (.cons (0, 3) (.cons (2, 4) (.cons (2, 5) .nil)))))) [] (by kernel_rfl) (by kernel_rfl) (by kernel_rfl) (fun W h => Held.weak h (by simp)) (HM.held (by simp)) ?_
  revert HM; generalize World.drew _ = W; intro HM
  have HS1 : Held w W [.blk b1 (kc k) 23] := HM.held (by simp)
  have HS2 : Held w W [.blk b1 (kc k) 23] := HM.held (by simp)
  refine wm_q2 (i := 0) (some 4) rfl rfl rfl HS2 (fun W HS => by (go_simp; try with_reducible rfl)) ?_
  simp only [Act.put, List.getElem_toArray, List.getElem_cons_succ, List.getElem_cons_zero, List.setIfInBounds_toArray, List.set_cons_succ, List.set_cons_zero]
  refine wm_q2 (i := 2) (some 6) rfl rfl rfl HS2 (fun W HS => by (go_simp; try with_reducible rfl)) ?_
  simp only [Act.put, List.getElem_toArray, List.getElem_cons_succ, List.getElem_cons_zero, List.setIfInBounds_toArray, List.set_cons_succ, List.set_cons_zero]
  refine wm_e0 (i := 1) rfl ?_
  go_wp2_with (first
    | (go_at_call 146; go_must (((with_reducible refine (value_c _ _ _ (rd_part HM m0 0 8 16 (by omega) (by omega) (by decide)) (by simp)).mono ?_)); rintro e W ⟨rfl, HM'⟩; replace HM := HM.keep HM'.below; clear HM')))
  refine ⟨HM.held (by simp), ?_⟩
  clear HS1 HS2
  have HS1 : Held w W [.blk b1 (kc k) 23] := HM.held (by simp)
  have HS2 : Held w W [.blk b1 (kc k) 23] := HM.held (by simp)
  refine wm_e0 (i := 3) rfl ?_
  go_wp2_with (first
    | (go_at_call 146; go_must (((with_reducible refine (value_c _ _ _ (rd_part HM m0 8 8 8 (by omega) (by omega) (by decide)) (by simp)).mono ?_)); rintro e W ⟨rfl, HM'⟩; replace HM := HM.keep HM'.below; clear HM')))
  refine ⟨HM.held (by simp), ?_⟩
  clear HS1 HS2
  have HS1 : Held w W [.blk b1 (kc k) 23] := HM.held (by simp)
  have HS2 : Held w W [.blk b1 (kc k) 23] := HM.held (by simp)
  refine wm_q2 (i := 4) (some 2) rfl rfl rfl HS2 (fun W HS => by (go_simp; try with_reducible rfl)) ?_
  simp only [Act.put, List.getElem_toArray, List.getElem_cons_succ, List.getElem_cons_zero, List.setIfInBounds_toArray, List.set_cons_succ, List.set_cons_zero]
  refine wm_q2 (i := 5) (some 3) rfl rfl rfl HS2 (fun W HS => by (go_simp; try with_reducible rfl)) ?_
  simp only [Act.put, List.getElem_toArray, List.getElem_cons_succ, List.getElem_cons_zero, List.setIfInBounds_toArray, List.set_cons_succ, List.set_cons_zero]
  refine wm_nilN ?_
  clear HS1 HS2
  have e8 : (k.toList.drop 8).take 8 = k.toList.drop 8 := List.take_of_length_le (by simp)
  rw [e8]
  go_wp2_with (fail)
  refine ret2 rfl (res_tmp rfl) (res_tmp rfl) rfl ?_
  exact ⟨rfl, HM.base⟩
def byteAt (n : UInt64) (i : Nat) : UInt8 := UInt8.ofNat (n.toNat / 256 ^ i)
def bytesN (n : UInt64) : Nat → List UInt8
  | 0 => []
  | i + 1 => byteAt n i :: bytesN n i
theorem bytesN_len (n : UInt64) (i : Nat) : (bytesN n i).length = i := by induction i with
  | zero => rfl
  | succ i ih => simp [bytesN, ih]
def quo (n : UInt64) (i : Nat) : Nat := n.toNat / 256 ^ i
theorem quo_zero (n : UInt64) : quo n 0 = n.toNat := by simp [quo]
theorem byteAt_nat (n : UInt64) (i : Nat) : ((quo n i : Nat) : Int) % 256 = ((byteAt n i).toNat : Int) := by
  rw [byteAt, UInt8.toNat_ofNat']; simp only [quo]; omega
theorem quo_succ (n : UInt64) (i : Nat) : IntKind.u64.wrap (((quo n i : Nat) : Int) / 256) = ((quo n (i + 1) : Nat) : Int) := by
  have h1 : quo n (i + 1) = quo n i / 256 := by simp only [quo]; rw [Nat.pow_succ, Nat.div_div_eq_div_mul]
  have h2 : quo n i ≤ n.toNat := Nat.div_le_self _ _
  have h3 := u64_lt n
  rw [h1, IntKind.wrap_u64]; omega
set_option maxHeartbeats 400000 in
theorem bytes_c (n : UInt64) (s : Nat) (hs : s ≤ 1000) (w : World) :
    Calls Try.prog 138 #[.int .u64 n.toNat, .int .i64 s] w fun e w' => ∃ v, e = .returned v ∧ Mem w w' [.row v 5 1 s ((bytesN n s).flatMap encB)] := by
  have HM := Mem.start w
  go_enter Try.func138, Try.ntmps138
  go_wp2_with (fail)
  replace HM := HM.nilrow 5 1
  go_loopw [0, 5, 6] (fun m o c wr => ∃ i : Nat, i ≤ s ∧ c = .int .i64 i ∧ m = .int .u64 ((quo n i : Nat) : Int) ∧ Mem w wr [.row o 5 1 i ((bytesN n i).flatMap encB)])
    (fun _ _ c _ => s - (intOf c).toNat)
  case atStart => exact ⟨0, by omega, rfl, by rw [quo_zero], HM⟩
  case round =>
    clear HM
    obtain ⟨i, hi, rfl, rfl, HM⟩ := hrel
    by_cases hlt : i < s
    · have hb := byteAt_nat n i
      have hq := quo_succ n i
      go_wp2_with (first
        | ((with_reducible refine s_ 15 ?_); go_must (refine wl_buildSlice (dst := some 15) (cs := #[.int .u8 (byteAt n i).toNat]) _ _ _ 5 1 _ Try.underlying24 Try.sizeOf5 Try.zeroValue5 (by decide) (by simp [Instr.fill, Act.eval, Act.put, Value.cells, undef, ← List.toArray_range, List.range_succ]) HM ?_; clear HM; intro b15 W HM; replace HM := HM.toRow 1 1 .here rfl (by simp [maxLen])))
        | ((with_reducible refine s_ 17 ?_); go_must (refine wl_append (dst := some 17) (enc := encB) _ _ _ _ _ _ _ _ _ _ _ (bytesN n i) Try.underlying24 inf5 rfl (by decide) encB_len encB_one HM .here (HM.rdRow (by decide) encB_len m1) rfl rfl (by decide) (by rw [bytesN_len]; omega) ?_; clear HM; intro v17 W HM; try dsimp only at HM)))
      rw [bytesN_len, Nat.add_comm] at HM
      go_roundw
      case rel => exact ⟨i + 1, by omega, by go_num, rfl, HM.only m0⟩
      case measure => simp [intOf]; omega
    · obtain rfl : i = s := by omega
      go_wp2_with (fail)
      refine ret1 rfl (res_tmp rfl) rfl ?_
      exact ⟨_, rfl, HM⟩
def keyL (l : List UInt8) : Key := Vector.ofFn fun i : Fin 16 => l.getD i 0
theorem keyL_nil : keyL [] = zeroKey := by
  apply Vector.ext; intro i hi; simp [keyL, zeroKey]
theorem keyL_set (l : List UInt8) (j : Nat) (h : j < 16) (hl : j < l.length) : (keyL (l.take j)).set j l[j] = keyL (l.take (j + 1)) := by
  apply Vector.ext; intro i hi
  rw [Vector.getElem_set]
  simp only [keyL, Vector.getElem_ofFn, List.getD_eq_getElem?_getD, List.getElem?_take]
  by_cases e : j = i
  · subst e; simp [hl]
  · rw [if_neg e]
    by_cases h1 : i < j
    · rw [if_pos h1, if_pos (by omega)]
    · rw [if_neg h1, if_neg (by omega)]
theorem keyL_take (l : List UInt8) (j : Nat) (h : j = 16 ∨ j = l.length) : keyL (l.take j) = keyL l := by
  apply Vector.ext; intro i hi
  simp only [keyL, Vector.getElem_ofFn, List.getD_eq_getElem?_getD, List.getElem?_take]
  split
  · rfl
  · rw [List.getElem?_eq_none (by omega)]
theorem keyL_list (l : List UInt8) (h : l.length = 16) : (keyL l).toList = l := by
  apply List.ext_getElem
  · simp [h]
  · intro i h1 h2; simp [keyL, h2]
set_option maxHeartbeats 400000 in
theorem key_c (v : Value) (l : List UInt8) (w : World) (hR : RdL encB 1 w v l) (hl : l.length ≤ 1073741824) :
    Calls Try.prog 145 #[v] w fun e w' => e = .returned (.agg (kc (keyL l))) ∧ Mem w w' [] := by
  have HM := Mem.start w
  go_enter Try.func145, Try.ntmps145
  go_wp2_with (first
    | ((with_reducible refine s_ 2 ?_); go_must (refine wl_alloc (dst := some 2) (cs := kc zeroKey) 23 _ Try.zeroValue23 kc_zero HM ?_; clear HM; intro b2 W HM))
    | ((with_reducible refine s_ 3 ?_); go_must (refine wl_alloc (dst := some 3) (cs := kc zeroKey) 23 _ Try.zeroValue23 kc_zero HM ?_; clear HM; intro b3 W HM)))
  go_loopw [4] (fun i wr => ∃ j : Nat, j ≤ 16 ∧ j ≤ l.length ∧ i = .int .i64 j ∧ Mem w wr [.blk b3 (kc (keyL (l.take j))) 23, .blk b2 (kc zeroKey) 23])
    (fun i _ => 16 - (intOf i).toNat)
  case atStart => exact ⟨0, by omega, by omega, rfl, by rw [List.take_zero, keyL_nil]; exact HM⟩
  case round =>
    clear HM
    obtain ⟨j, hj, hj', rfl, HM⟩ := hrel
    by_cases hlt : j < 16 ∧ j < l.length
    · obtain ⟨h1, h2⟩ := hlt
      have hx : l[j]? = some l[j] := List.getElem?_eq_getElem h2
      have hb1 : (j : Int) < 16 := by omega
      have hb2 : (j : Int) < (l.length : Int) := by omega
      go_wp2_with (first
        | ((with_reducible refine gd_ _ ?_); refine wl_guard (by rfl) ?_)
        | ((with_reducible refine s_ 10 ?_); go_must ((refine wl_len (dst := some 10) _ _ _ _ 5 Try.underlying24 rfl (hR.mem HM) ?_)))
        | ((with_reducible refine s_ 18 ?_); go_must ((refine wl_index (dst := some 18) _ 5 _ _ _ _ _ _ _ encB_len Try.underlying24 sz5 rfl rfl (hR.mem HM) (by omega) (by first | assumption | simp [*]) ?_); intro p18 hp18))
        | ((with_reducible refine s_ 19 ?_); go_must (refine wl_load_at1 (dst := some 19) _ _ _ _ _ rfl hp18 Try.underlying5 rfl ?_))
        | ((with_reducible refine st_ 5 ?_); go_must ((refine wl_store_cell _ _ _ _ _ _ _ _ _ rfl rfl HM .here sz5 rfl (by first | omega | (simp; done) | (simp [kc_size]; done) | (simp [kc_size]; omega) | (simp only [Array.size_setIfInBounds, bytesC_size, List.length_append, List.length_replicate, List.length_set]; omega)) rfl ?_); clear HM; intro W HM; try (simp only [Act.eval, Array.getD_eq_getD_getElem?, List.getElem?_toArray, List.getElem?_cons_succ, List.getElem?_cons_zero, Option.getD_some, List.setIfInBounds_toArray, List.set_cons_succ, List.set_cons_zero] at HM))))
      rw [kc_set _ _ h1, keyL_set l j h1 h2] at HM
      go_roundw
      case rel => exact ⟨j + 1, by omega, by omega, by go_num, HM⟩
      case measure => simp [intOf]; omega
    · have he := keyL_take l j (by omega)
      rw [he] at HM
      rcases Nat.lt_or_ge j 16 with h1 | h1
      · have hb1 : (j : Int) < 16 := by omega
        have hb2 : ¬ (j : Int) < (l.length : Int) := by omega
        go_wp2_with (first
          | ((with_reducible refine gd_ _ ?_); refine wl_guard (by rfl) ?_)
          | ((with_reducible refine s_ 10 ?_); go_must ((refine wl_len (dst := some 10) _ _ _ _ 5 Try.underlying24 rfl (hR.mem HM) ?_)))
          | ((with_reducible refine ld_ 23 ?_); go_must (refine wl_load_blk _ _ _ _ _ _ rfl HM (by repeat first | exact List.mem_cons_self .. | refine List.mem_cons_of_mem _ ?_) Try.underlying23 rfl (by rw [kc_size]; exact sz23) ?_))
          | ((with_reducible refine st_ 23 ?_); go_must ((refine wl_store_blk _ _ _ _ _ _ _ rfl rfl HM (.there .here) (by rw [kc_size]; exact sz23) (by simp only [kc_size]) (kc_one _) ?_); clear HM; intro W HM)))
        refine ret1 rfl (by (exact res_row HM rfl m1 Try.underlying23 rfl (by rw [kc_size]; exact sz23))) rfl ?_
        exact ⟨rfl, HM.base⟩
      · have hb1 : ¬ (j : Int) < 16 := by omega
        go_wp2_with (first
          | ((with_reducible refine ld_ 23 ?_); go_must (refine wl_load_blk _ _ _ _ _ _ rfl HM (by repeat first | exact List.mem_cons_self .. | refine List.mem_cons_of_mem _ ?_) Try.underlying23 rfl (by rw [kc_size]; exact sz23) ?_))
          | ((with_reducible refine st_ 23 ?_); go_must ((refine wl_store_blk _ _ _ _ _ _ _ rfl rfl HM (.there .here) (by rw [kc_size]; exact sz23) (by simp only [kc_size]) (kc_one _) ?_); clear HM; intro W HM)))
        refine ret1 rfl (by (exact res_row HM rfl m1 Try.underlying23 rfl (by rw [kc_size]; exact sz23))) rfl ?_
        exact ⟨rfl, HM.base⟩
theorem bytes8_c (n : UInt64) (w : World) : Calls Try.prog 138 #[.int .u64 n.toNat, .int .i64 8] w fun e w' => ∃ v, e = .returned v ∧ Mem w w' [.row v 5 1 8 ((bytesN n 8).flatMap encB)] := bytes_c n 8 (by decide) w
theorem byteAt_shr (x : UInt64) (i : Nat) (h : i < 8) : byteAt x i = toB (shrU x (8 * i)) := by
  apply UInt8.toNat_inj.1
  rw [byteAt, toB, shrU, UInt64.toNat_toUInt8, UInt64.toNat_shiftRight, UInt8.toNat_ofNat']
  have h1 : (UInt64.ofNat (8 * i)).toNat % 64 = 8 * i := by rw [UInt64.toNat_ofNat']; omega
  rw [h1, Nat.shiftRight_eq_div_pow, show (256 : Nat) = 2 ^ 8 from rfl, ← Nat.pow_mul]
theorem bytesN_8 (x : UInt64) : bytesN x 8 = bytes8 x := by
  simp [bytesN, bytes8, List.range_succ, byteAt_shr]
theorem keyL_block (x y : UInt64) : keyL (bytesN x 8 ++ bytesN y 8) = blockK (x, y) := by
  apply Vector.toList_inj.1
  rw [keyL_list _ (by simp [bytesN_len]), bytesN_8, bytesN_8]
  simp [blockK]
set_option maxHeartbeats 400000 in
theorem rblock_c (x y : UInt64) (w : World) :
    Calls Try.prog 119 #[.int .u64 x.toNat, .int .u64 y.toNat] w fun e w' => e = .returned (.agg (kc (blockK (x, y)))) ∧ Mem w w' [] := by
  have HM := Mem.start w
  go_enter Try.func119, Try.ntmps119
  go_wp2_with (first
    | ((with_reducible refine s_ 4 ?_); go_must (refine wl_alloc (dst := some 4) (cs := kc zeroKey) 23 _ Try.zeroValue23 kc_zero HM ?_; clear HM; intro b4 W HM))
    | ((with_reducible refine s_ 9 ?_); go_must (refine wl_append (dst := some 9) (enc := encB) _ _ _ _ _ _ _ _ _ _ _ (bytesN y 8) Try.underlying24 inf5 rfl (by decide) encB_len encB_one HM (.there .here) (HM.rdRow (by decide) encB_len m0) rfl rfl (by decide) (by rw [bytesN_len]; omega) ?_; clear HM; intro v9 W HM; try dsimp only at HM))
    | ((with_reducible refine st_ 23 ?_); go_must ((refine wl_store_blk _ _ _ _ _ _ _ rfl rfl HM (.there (.there .here)) (by rw [kc_size]; exact sz23) (by simp only [kc_size]) (kc_one _) ?_); clear HM; intro W HM))
    | (go_at_call 138; go_must (((with_reducible refine (bytes8_c _ _).mono ?_)); rintro e W ⟨v, rfl, HM'⟩; replace HM := HM.join HM'; clear HM'; simp only [List.cons_append, List.nil_append] at HM))
    | (go_at_call 145; go_must (((with_reducible refine (key_c _ (bytesN x 8 ++ bytesN y 8) _ (HM.rdRow (by decide) encB_len (List.mem_cons_of_mem _ (by rw [List.flatMap_append]; exact List.mem_cons_self ..))) (by simp [bytesN_len])).mono ?_)); rintro e W ⟨rfl, HM'⟩; replace HM := HM.keep HM'.below; clear HM')))
  rw [keyL_block] at HM ⊢
  refine ret1 rfl (by (exact res_row HM rfl m2 Try.underlying23 rfl (by rw [kc_size]; exact sz23))) rfl ?_
  exact ⟨rfl, HM.base⟩
end
section
set_option linter.unusedVariables false
set_option linter.unusedSimpArgs false
open Go.RowKit
theorem addU_comm (a b : UInt64) : addU a b = addU b a := UInt64.add_comm a b
def encQ (b : UInt64) : List Value := [.int .u64 b.toNat]
theorem encQ_len (b : UInt64) : (encQ b).length = 1 := rfl
theorem encQ_one (b : UInt64) : ∀ u ∈ encQ b, u.oneCell' = true := by
  intro u hu; simp only [encQ, List.mem_singleton] at hu; subst hu; rfl
def keysTo (k : Key) (n : Nat) : List UInt64 := (List.range n).map fun i => (keyAt k i).2
theorem keysTo_succ (k : Key) (n : Nat) : keysTo k (n + 1) = keysTo k n ++ [(keyAt k n).2] := by simp [keysTo, List.range_succ]
theorem keysTo_32 (k : Key) : keysTo k 32 = keyList k := rfl
section
attribute [local go_sem] bx64 bo64 w64_8 wa64 ws64 w8_64
set_option maxHeartbeats 400000 in
theorem roundKeys_c (k : Key) (w : World) :
    Calls Try.prog 116 #[.agg (kc k)] w fun e w' => ∃ v, e = .returned v ∧ Mem w w' [.row v 109 1 32 ((keyList k).flatMap encQ)] := by
  have HM := Mem.start w
  go_enter Try.func116, Try.ntmps116
  go_wp2_with (first
    | ((with_reducible refine s_ 1 ?_); go_must (refine wl_box (dst := some 1) (cs := kc k) _ _ _ rfl rfl HM ?_; clear HM; intro b1 W HM))
    | ((with_reducible refine s_ 13 ?_); go_must (refine wl_buildSlice (dst := some 13) (cs := #[.int .u64 (wordsK k).2.toNat]) _ _ _ 109 1 _ Try.underlying172 Try.sizeOf109 Try.zeroValue109 (by decide) (by simp [Instr.fill, Act.eval, Act.put, Value.cells, undef, ← List.toArray_range, List.range_succ]) HM ?_; clear HM; intro b13 W HM; replace HM := HM.toRow 1 1 .here rfl (by simp [maxLen])))
    | ((with_reducible refine ld_ 23 ?_); go_must (refine wl_load_blk _ _ _ _ _ _ rfl HM (by repeat first | exact List.mem_cons_self .. | refine List.mem_cons_of_mem _ ?_) Try.underlying23 rfl (by rw [kc_size]; exact sz23) ?_))
    | (go_at_call 115; go_must (((with_reducible refine (words_c _ _).mono ?_)); rintro e W ⟨rfl, HM'⟩; replace HM := HM.keep HM'.below; clear HM')))
  go_loopw [3, 4, 5, 6] (fun l at_ o c wr => ∃ j : Nat, j ≤ 31 ∧ c = .int .i64 j ∧ l = .int .u64 (keyAt k j).1.toNat ∧ at_ = .int .u64 (keyAt k j).2.toNat ∧ Mem w wr [.row o 109 1 (j + 1) ((keysTo k (j + 1)).flatMap encQ)])
    (fun _ _ _ c _ => 31 - (intOf c).toNat)
  case atStart => exact ⟨0, by omega, rfl, rfl, rfl, HM.only m0⟩
  case round =>
    clear HM
    obtain ⟨j, hj, rfl, rfl, rfl, HM⟩ := hrel
    by_cases hlt : j < 31
    · have hw : (j : Int) % 18446744073709551616 = (j : Int) := by omega
      have hj2 : (j : Int) = ((UInt64.ofNat j).toNat : Int) := by rw [UInt64.toNat_ofNat']; omega
      have e1 : xorU (addU (keyAt k j).2 (rotl (keyAt k j).1 56)) (UInt64.ofNat j) = (keyAt k (j + 1)).1 := by rw [addU_comm]; rfl
      have e3 := bx64 (addU (keyAt k j).2 (rotl (keyAt k j).1 56)) (UInt64.ofNat j)
      rw [e1, ← hj2] at e3
      clear hj2
      have e2 : xorU (rotl (keyAt k j).2 3) (keyAt k (j + 1)).1 = (keyAt k (j + 1)).2 := rfl
      go_wp2_with (first
        | ((with_reducible refine s_ 31 ?_); go_must (refine wl_buildSlice (dst := some 31) (cs := #[.int .u64 (keyAt k (j + 1)).2.toNat]) _ _ _ 109 1 _ Try.underlying172 Try.sizeOf109 Try.zeroValue109 (by decide) (by simp [Instr.fill, Act.eval, Act.put, Value.cells, undef, ← List.toArray_range, List.range_succ]) HM ?_; clear HM; intro b31 W HM))
        | ((with_reducible refine s_ 32 ?_); go_must (refine wl_append (dst := some 32) (enc := encQ) _ _ _ _ _ _ _ _ _ _ _ ([(keyAt k (j + 1)).2]) Try.underlying172 inf109 rfl (by decide) encQ_len encQ_one HM (.there .here) (RdL.of_blk (HM.blk m0) _ 1 rfl rfl (by decide)) rfl rfl (by decide) (by first | omega | (simp; omega)) ?_; clear HM; intro v32 W HM; try dsimp only at HM))
        | (go_at_call 117; go_must (((with_reducible refine (rotr_8 _ _).mono ?_)); rintro e W ⟨rfl, HM'⟩; replace HM := HM.keep HM'.below; clear HM'))
        | (go_at_call 118; go_must (((with_reducible refine (rotl_3 _ _).mono ?_)); rintro e W ⟨rfl, HM'⟩; replace HM := HM.keep HM'.below; clear HM')))
      rw [List.length_singleton, show ∀ x, List.flatMap encQ (keysTo k (j + 1)) ++ List.flatMap encQ [x] = List.flatMap encQ (keysTo k (j + 1) ++ [x]) from fun x => List.flatMap_append.symm, ← keysTo_succ] at HM
      go_roundw
      case rel => exact ⟨j + 1, by omega, by go_num, rfl, rfl, HM.only m1⟩
      case measure => simp [intOf]; omega
    · obtain rfl : j = 31 := by omega
      go_wp2_with (fail)
      refine ret1 rfl (res_tmp rfl) rfl ?_
      exact ⟨_, rfl, HM⟩
theorem keysTo_at (k : Key) (n j : Nat) (h : j < n) : (keysTo k n)[j]? = some (keyAt k j).2 := by simp [keysTo, h]
def encAt (k b : Key) (j : Nat) : UInt64 × UInt64 := (keysTo k j).foldl roundF (wordsK b)
theorem encAt_succ (k b : Key) (j : Nat) : encAt k b (j + 1) = roundF (encAt k b j) (keyAt k j).2 := by rw [encAt, keysTo_succ, List.foldl_append]; rfl
theorem encAt_end (k b : Key) : blockK (encAt k b 32) = encryptK k b := rfl
set_option maxHeartbeats 400000 in
theorem rencrypt_c (k b : Key) (w : World) :
    Calls Try.prog 56 #[.agg (kc k), .agg (kc b)] w fun e w' => e = .returned (.agg (kc (encryptK k b))) ∧ Mem w w' [] := by
  have HM := Mem.start w
  go_enter Try.func56, Try.ntmps56
  go_wp2_with (first
    | ((with_reducible refine s_ 2 ?_); go_must (refine wl_box (dst := some 2) (cs := kc k) _ _ _ rfl rfl HM ?_; clear HM; intro b2 W HM))
    | ((with_reducible refine s_ 3 ?_); go_must (refine wl_box (dst := some 3) (cs := kc b) _ _ _ rfl rfl HM ?_; clear HM; intro b3 W HM))
    | ((with_reducible refine s_ 4 ?_); go_must (refine wl_alloc (dst := some 4) (cs := kc zeroKey) 23 _ Try.zeroValue23 kc_zero HM ?_; clear HM; intro b4 W HM))
    | ((with_reducible refine ld_ 23 ?_); go_must (refine wl_load_blk _ _ _ _ _ _ rfl HM (by repeat first | exact List.mem_cons_self .. | refine List.mem_cons_of_mem _ ?_) Try.underlying23 rfl (by rw [kc_size]; exact sz23) ?_))
    | (go_at_call 115; go_must (((with_reducible refine (words_c _ _).mono ?_)); rintro e W ⟨rfl, HM'⟩; replace HM := HM.keep HM'.below; clear HM'))
    | (go_at_call 116; go_must (((with_reducible refine (roundKeys_c _ _).mono ?_)); rintro e W ⟨v7, rfl, HM'⟩; replace HM := HM.join HM'; clear HM'; simp only [List.cons_append, List.nil_append] at HM)))
  go_loopw [5, 6, 8] (fun x y c wr => ∃ j : Nat, j ≤ 32 ∧ c = .int .i64 j ∧ x = .int .u64 (encAt k b j).1.toNat ∧ y = .int .u64 (encAt k b j).2.toNat ∧ Mem w wr [.row v7 109 1 32 ((keyList k).flatMap encQ), .blk b4 (kc zeroKey) 23, .blk b3 (kc b) 23, .blk b2 (kc k) 23])
    (fun _ _ c _ => 32 - (intOf c).toNat)
  case atStart => exact ⟨0, by omega, rfl, rfl, rfl, HM⟩
  case round =>
    clear HM
    obtain ⟨j, hj, rfl, rfl, rfl, HM⟩ := hrel
    by_cases hlt : j < 32
    · have hx : (keyList k)[j]? = some (keyAt k j).2 := by rw [← keysTo_32]; exact keysTo_at k 32 j hlt
      have hlen : (keyList k).length = 32 := by simp [keyList]
      have e1 : xorU (addU (rotl (encAt k b j).1 56) (encAt k b j).2) (keyAt k j).2 = (encAt k b (j + 1)).1 := by rw [encAt_succ]; rfl
      have e2 : xorU (rotl (encAt k b j).2 3) (encAt k b (j + 1)).1 = (encAt k b (j + 1)).2 := by rw [encAt_succ]; rfl
      go_wp2_with (fail)
      replace HM := HM.drew
      refine wp_region_mixN (fun W => Held w W [.row v7 109 1 32 ((keyList k).flatMap encQ)]) (fun W => Held w W [.row v7 109 1 32 ((keyList k).flatMap encQ)]) (.cons (2, 0) (.cons (2, 2) (.cons (2, 4) (.cons (2, 5) (.cons (2, 6) (.cons (2, 7) (.cons (0, 1) (.cons (2, 3) (.cons (2, 8) (.cons (2, 9) .nil)))))))))) [] (by kernel_rfl) (by kernel_rfl) (by kernel_rfl) (fun W h => Held.weak h (by simp)) (HM.held (by simp)) ?_
      revert HM; generalize World.drew _ = W; intro HM
      have HS1 : Held w W [.row v7 109 1 32 ((keyList k).flatMap encQ)] := HM.held (by simp)
      have HS2 : Held w W [.row v7 109 1 32 ((keyList k).flatMap encQ)] := HM.held (by simp)
      refine wm_q2 (i := 0) (some 20) rfl rfl rfl HS2 (fun W HS => by (go_simp; try with_reducible rfl)) ?_
      simp only [Act.put, List.getElem_toArray, List.getElem_cons_succ, List.getElem_cons_zero, List.setIfInBounds_toArray, List.set_cons_succ, List.set_cons_zero]
      refine wm_q2 (i := 2) (some 22) rfl rfl rfl HS2 (fun W HS => by (go_simp; try with_reducible rfl)) ?_
      simp only [Act.put, List.getElem_toArray, List.getElem_cons_succ, List.getElem_cons_zero, List.setIfInBounds_toArray, List.set_cons_succ, List.set_cons_zero]
      refine wm_q2 (i := 4) (some 24) rfl rfl rfl HS2 (fun W HS => by (go_simp; try with_reducible rfl)) ?_
      simp only [Act.put, List.getElem_toArray, List.getElem_cons_succ, List.getElem_cons_zero, List.setIfInBounds_toArray, List.set_cons_succ, List.set_cons_zero]
      refine wm_q2 (i := 5) (some 25) rfl rfl rfl HS2 (fun W HS => by (go_simp; try with_reducible rfl)) ?_
      simp only [Act.put, List.getElem_toArray, List.getElem_cons_succ, List.getElem_cons_zero, List.setIfInBounds_toArray, List.set_cons_succ, List.set_cons_zero]
      (refine wm_q2x (i := 6) (some 26) rfl rfl rfl HS2 (ry_index _ 109 _ _ _ _ _ _ _ (fun W => Held w W [.row v7 109 1 32 ((keyList k).flatMap encQ)]) W encQ_len Try.underlying172 sz109 HS2 (fun W HS => rd_rowH HS m0 rfl (by decide) encQ_len) rfl rfl (by omega) (by first | assumption | simp [*])) ?_); intro p26 hp26
      simp only [Act.put, List.getElem_toArray, List.getElem_cons_succ, List.getElem_cons_zero, List.setIfInBounds_toArray, List.set_cons_succ, List.set_cons_zero]
      refine wm_q2 (i := 7) (some 27) rfl rfl rfl HS2 (fun W HS => (by refine ry_load_at1 _ _ _ _ _ ?_ (hp26 W HS) Try.underlying109 rfl; rfl)) ?_
      simp only [Act.put, List.getElem_toArray, List.getElem_cons_succ, List.getElem_cons_zero, List.setIfInBounds_toArray, List.set_cons_succ, List.set_cons_zero]
      refine wm_e0 (i := 1) rfl ?_
      go_wp2_with (first
        | (go_at_call 117; go_must (((with_reducible refine (rotr_8 _ _).mono ?_)); rintro e W ⟨rfl, HM'⟩; replace HM := HM.keep HM'.below; clear HM')))
      refine ⟨HM.held (by simp), ?_⟩
      clear HS1 HS2
      have HS1 : Held w W [.row v7 109 1 32 ((keyList k).flatMap encQ)] := HM.held (by simp)
      have HS2 : Held w W [.row v7 109 1 32 ((keyList k).flatMap encQ)] := HM.held (by simp)
      refine wm_q2 (i := 3) (some 23) rfl rfl rfl HS2 (fun W HS => by (go_simp; try with_reducible rfl)) ?_
      simp only [Act.put, List.getElem_toArray, List.getElem_cons_succ, List.getElem_cons_zero, List.setIfInBounds_toArray, List.set_cons_succ, List.set_cons_zero]
      refine wm_q2 (i := 8) (some 28) rfl rfl rfl HS2 (fun W HS => by (go_simp; try with_reducible rfl)) ?_
      simp only [Act.put, List.getElem_toArray, List.getElem_cons_succ, List.getElem_cons_zero, List.setIfInBounds_toArray, List.set_cons_succ, List.set_cons_zero]
      refine wm_q2 (i := 9) (some 5) rfl rfl rfl HS2 (fun W HS => by (go_simp; try with_reducible rfl)) ?_
      simp only [Act.put, List.getElem_toArray, List.getElem_cons_succ, List.getElem_cons_zero, List.setIfInBounds_toArray, List.set_cons_succ, List.set_cons_zero]
      refine wm_nilN ?_
      clear HS1 HS2
      go_wp2_with (first
        | (go_at_call 118; go_must (((with_reducible refine (rotl_3 _ _).mono ?_)); rintro e W ⟨rfl, HM'⟩; replace HM := HM.keep HM'.below; clear HM')))
      go_roundw
      case rel => exact ⟨j + 1, by omega, by go_num, rfl, rfl, HM⟩
      case measure => simp [intOf]; omega
    · obtain rfl : j = 32 := by omega
      go_wp2_with (first
        | ((with_reducible refine st_ 23 ?_); go_must ((refine wl_store_blk _ _ _ _ _ _ _ rfl rfl HM (.there .here) (by rw [kc_size]; exact sz23) (by simp only [kc_size]) (kc_one _) ?_); clear HM; intro W HM))
        | (go_at_call 119; go_must (((with_reducible refine (rblock_c _ _ _).mono ?_)); rintro e W ⟨rfl, HM'⟩; replace HM := HM.keep HM'.below; clear HM')))
      rw [show ((encAt k b 32).1, (encAt k b 32).2) = encAt k b 32 from rfl, encAt_end] at *
      refine ret1 rfl (by (exact res_row HM rfl m1 Try.underlying23 rfl (by rw [kc_size]; exact sz23))) rfl ?_
      exact ⟨rfl, HM.base⟩
end
set_option maxHeartbeats 400000 in
theorem portions_c (v : Value) (l : List UInt8) (w : World) (hR : RdL encB 1 w v l) (hl : l.length ≤ 1073741824) :
    Calls Try.prog 111 #[v] w fun e w' => e = .returned (.int .i64 (((l.length + 15) / 16 : Nat) : Int)) ∧ Mem w w' [] := by
  have HM := Mem.start w
  have h1 : IntKind.i64.wrap ((l.length : Int) + 15) = (l.length : Int) + 15 := by rw [IntKind.wrap_i64]; omega
  go_enter Try.func111, Try.ntmps111
  go_wp2_with (first
    | ((with_reducible refine s_ 4 ?_); go_must ((refine wl_len (dst := some 4) _ _ _ _ 5 Try.underlying24 rfl (hR.mem HM) ?_))))
  refine ret1 rfl (res_tmp rfl) rfl ?_
  refine ⟨?_, HM⟩
  rw [Int.natCast_ediv]; rfl
set_option maxHeartbeats 400000 in
theorem portion_c (v : Value) (l : List UInt8) (i : Nat) (w : World) (hR : RdL encB 1 w v l) (hl : l.length ≤ 1073741824) (hi : 16 * i ≤ l.length) :
    Calls Try.prog 113 #[v, .int .i64 i] w fun e w' => e = .returned (.agg (kc (keyL (l.drop (16 * i))))) ∧ Mem w w' [] := by
  have HM := Mem.start w
  have h1 : IntKind.i64.wrap (16 * (i : Int)) = 16 * (i : Int) := by rw [IntKind.wrap_i64]; omega
  have h2 : (16 * (i : Int)).toNat = 16 * i := by omega
  go_enter Try.func113, Try.ntmps113
  go_wp2_with (first
    | ((with_reducible refine s_ 4 ?_); go_must (refine wl_alloc (dst := some 4) (cs := kc zeroKey) 23 _ Try.zeroValue23 kc_zero HM ?_; clear HM; intro b4 W HM))
    | ((with_reducible refine s_ 8 ?_); go_must ((refine wl_slice_lo (dst := some 8) _ 5 _ _ _ _ _ _ encB_len Try.underlying24 sz5 rfl rfl (hR.mem HM) (by omega) (by omega) ?_); intro v8 hv8))
    | ((with_reducible refine st_ 23 ?_); go_must ((refine wl_store_blk _ _ _ _ _ _ _ rfl rfl HM .here (by rw [kc_size]; exact sz23) (by simp only [kc_size]) (kc_one _) ?_); clear HM; intro W HM))
    | (go_at_call 145; go_must (((with_reducible refine (key_c _ _ _ hv8 (by simp; omega)).mono ?_)); rintro e W ⟨rfl, HM'⟩; replace HM := HM.keep HM'.below; clear HM')))
  refine ret1 rfl (by (exact res_row HM rfl m0 Try.underlying23 rfl (by rw [kc_size]; exact sz23))) rfl ?_
  exact ⟨rfl, HM.base⟩
def xorTo (a b : Key) (j : Nat) : Key := Vector.ofFn fun i : Fin 16 => if i.1 < j then xorB a[i] b[i] else a[i]
theorem xorTo_zero (a b : Key) : xorTo a b 0 = a := by apply Vector.ext; intro i hi; simp [xorTo]
theorem xorTo_end (a b : Key) : xorTo a b 16 = xorK a b := by apply Vector.ext; intro i hi; simp [xorTo, xorK, hi]
theorem xorTo_at (a b : Key) (j : Nat) (h : j < 16) : (xorTo a b j)[j] = a[j] := by simp [xorTo]
theorem xorTo_set (a b : Key) (j : Nat) (h : j < 16) : (xorTo a b j).set j (xorB a[j] b[j]) = xorTo a b (j + 1) := by
  apply Vector.ext; intro i hi
  rw [Vector.getElem_set]
  simp only [xorTo, Vector.getElem_ofFn]
  by_cases e : j = i
  · subst e; simp
  · rw [if_neg e]
    by_cases h1 : i < j
    · simp [h1, show i < j + 1 by omega]
    · simp [h1, show ¬ i < j + 1 by omega]
attribute [irreducible] xorTo
attribute [local go_sem] bx8 in
set_option maxHeartbeats 400000 in
theorem rxor_c (a b : Key) (w : World) :
    Calls Try.prog 112 #[.agg (kc a), .agg (kc b)] w fun e w' => e = .returned (.agg (kc (xorK a b))) ∧ Mem w w' [] := by
  have HM := Mem.start w
  go_enter Try.func112, Try.ntmps112
  go_wp2_with (first
    | ((with_reducible refine s_ 2 ?_); go_must (refine wl_box (dst := some 2) (cs := kc a) _ _ _ rfl rfl HM ?_; clear HM; intro b2 W HM))
    | ((with_reducible refine s_ 3 ?_); go_must (refine wl_box (dst := some 3) (cs := kc b) _ _ _ rfl rfl HM ?_; clear HM; intro b3 W HM))
    | ((with_reducible refine s_ 4 ?_); go_must (refine wl_alloc (dst := some 4) (cs := kc zeroKey) 23 _ Try.zeroValue23 kc_zero HM ?_; clear HM; intro b4 W HM)))
  go_loopw [5] (fun i wr => ∃ j : Nat, j ≤ 16 ∧ i = .int .i64 j ∧ Mem w wr [.blk b4 (kc zeroKey) 23, .blk b3 (kc b) 23, .blk b2 (kc (xorTo a b j)) 23])
    (fun i _ => 16 - (intOf i).toNat)
  case atStart => exact ⟨0, by omega, rfl, by rw [xorTo_zero]; exact HM⟩
  case round =>
    clear HM
    obtain ⟨j, hj, rfl, HM⟩ := hrel
    by_cases hlt : j < 16
    · have hca : (kc (xorTo a b j))[j]? = some (.int .u8 (a[j]'hlt).toNat) := by rw [kc_at _ j hlt, xorTo_at]
      have hb1 : (j : Int) < 16 := by omega
      go_wp2_with (fail)
      replace HM := HM.drew
      refine wp_region_mixN (fun W => Held w W [.blk b3 (kc b) 23, .blk b2 (kc (xorTo a b j)) 23]) (fun W => Held w W [.blk b3 (kc b) 23]) (.cons (2, 0) (.cons (2, 1) (.cons (2, 2) (.cons (1, 3) (.cons (2, 4) (.cons (2, 5) (.cons (2, 6) (.cons (2, 7) (.cons (2, 8) (.cons (3, 9) .nil)))))))))) [9] (by kernel_rfl) (by kernel_rfl) (by kernel_rfl) (fun W h => Held.weak h (by simp)) (HM.held (by simp)) ?_
      revert HM; generalize World.drew _ = W; intro HM
      have HS1 : Held w W [.blk b3 (kc b) 23, .blk b2 (kc (xorTo a b j)) 23] := HM.held (by simp)
      have HS2 : Held w W [.blk b3 (kc b) 23] := HM.held (by simp)
      refine wm_q2 (i := 0) (some 10) rfl rfl rfl HS2 (fun W HS => by (go_simp; try with_reducible rfl)) ?_
      simp only [Act.put, List.getElem_toArray, List.getElem_cons_succ, List.getElem_cons_zero, List.setIfInBounds_toArray, List.set_cons_succ, List.set_cons_zero]
      refine wm_q2 (i := 1) (some 11) rfl rfl rfl HS2 (fun W HS => by (go_simp; try with_reducible rfl)) ?_
      simp only [Act.put, List.getElem_toArray, List.getElem_cons_succ, List.getElem_cons_zero, List.setIfInBounds_toArray, List.set_cons_succ, List.set_cons_zero]
      refine wm_q2 (i := 2) (some 12) rfl rfl rfl HS2 (fun W HS => by (go_simp; try with_reducible rfl)) ?_
      simp only [Act.put, List.getElem_toArray, List.getElem_cons_succ, List.getElem_cons_zero, List.setIfInBounds_toArray, List.set_cons_succ, List.set_cons_zero]
      refine wm_q1 (i := 3) (some 13) rfl rfl rfl HS1 (fun W HS => (by ((refine ry_load_cell _ _ _ _ _ _ (.int .u8 (a[j]'hlt).toNat) _ HS ?_ m1 (hca) Try.underlying5 rfl; rfl)))) ?_
      simp only [Act.put, List.getElem_toArray, List.getElem_cons_succ, List.getElem_cons_zero, List.setIfInBounds_toArray, List.set_cons_succ, List.set_cons_zero]
      refine wm_q2 (i := 4) (some 14) rfl rfl rfl HS2 (fun W HS => by (go_simp; try with_reducible rfl)) ?_
      simp only [Act.put, List.getElem_toArray, List.getElem_cons_succ, List.getElem_cons_zero, List.setIfInBounds_toArray, List.set_cons_succ, List.set_cons_zero]
      refine wm_q2 (i := 5) (some 15) rfl rfl rfl HS2 (fun W HS => by (go_simp; try with_reducible rfl)) ?_
      simp only [Act.put, List.getElem_toArray, List.getElem_cons_succ, List.getElem_cons_zero, List.setIfInBounds_toArray, List.set_cons_succ, List.set_cons_zero]
      refine wm_q2 (i := 6) (some 16) rfl rfl rfl HS2 (fun W HS => (by ((refine ry_load_cell _ _ _ _ _ _ (.int .u8 (b[j]'hlt).toNat) _ HS ?_ m0 (kc_at b j hlt) Try.underlying5 rfl; rfl)))) ?_
      simp only [Act.put, List.getElem_toArray, List.getElem_cons_succ, List.getElem_cons_zero, List.setIfInBounds_toArray, List.set_cons_succ, List.set_cons_zero]
      refine wm_q2 (i := 7) (some 17) rfl rfl rfl HS2 (fun W HS => by (go_simp; try with_reducible rfl)) ?_
      simp only [Act.put, List.getElem_toArray, List.getElem_cons_succ, List.getElem_cons_zero, List.setIfInBounds_toArray, List.set_cons_succ, List.set_cons_zero]
      refine wm_q2 (i := 8) (some 18) rfl rfl rfl HS2 (fun W HS => by (go_simp; try with_reducible rfl)) ?_
      simp only [Act.put, List.getElem_toArray, List.getElem_cons_succ, List.getElem_cons_zero, List.setIfInBounds_toArray, List.set_cons_succ, List.set_cons_zero]
      refine wm_e3 (i := 9) rfl ?_
      go_wp2_with (first
        | ((with_reducible refine st_ 5 ?_); go_must ((refine wl_store_cell _ _ _ _ _ _ _ _ _ rfl rfl HM (.there (.there .here)) sz5 rfl (by first | omega | (simp; done) | (simp [kc_size]; done) | (simp [kc_size]; omega) | (simp only [Array.size_setIfInBounds, bytesC_size, List.length_append, List.length_replicate, List.length_set]; omega)) rfl ?_); clear HM; intro W HM; try (simp only [Act.eval, Array.getD_eq_getD_getElem?, List.getElem?_toArray, List.getElem?_cons_succ, List.getElem?_cons_zero, Option.getD_some, List.setIfInBounds_toArray, List.set_cons_succ, List.set_cons_zero] at HM))))
      refine ⟨HM.held (by simp), ?_⟩
      clear HS1 HS2
      have HS1 : True := trivial
      have HS2 : Held w W [.blk b3 (kc b) 23] := HM.held (by simp)
      refine wm_nilN ?_
      clear HS1 HS2
      go_wp2_with (fail)
      rw [kc_set _ _ hlt, xorTo_set a b j hlt] at HM
      go_roundw
      case rel => exact ⟨j + 1, by omega, by go_num, HM⟩
      case measure => simp [intOf]; omega
    · obtain rfl : j = 16 := by omega
      rw [xorTo_end] at HM
      go_wp2_with (first
        | ((with_reducible refine ld_ 23 ?_); go_must (refine wl_load_blk _ _ _ _ _ _ rfl HM (by repeat first | exact List.mem_cons_self .. | refine List.mem_cons_of_mem _ ?_) Try.underlying23 rfl (by rw [kc_size]; exact sz23) ?_))
        | ((with_reducible refine st_ 23 ?_); go_must ((refine wl_store_blk _ _ _ _ _ _ _ rfl rfl HM .here (by rw [kc_size]; exact sz23) (by simp only [kc_size]) (kc_one _) ?_); clear HM; intro W HM)))
      refine ret1 rfl (by (exact res_row HM rfl m0 Try.underlying23 rfl (by rw [kc_size]; exact sz23))) rfl ?_
      exact ⟨rfl, HM.base⟩
end
section
set_option linter.unusedVariables false
set_option linter.unusedSimpArgs false
open Go.RowKit
def bytesC (l : List UInt8) : Array Value := (l.flatMap encB).toArray
theorem flatB (l : List UInt8) : l.flatMap encB = l.map (fun x => Value.int .u8 (x.toNat : Int)) := by
  induction l with
  | nil => rfl
  | cons x l ih => simp [encB, ih]
theorem bytesC_size (l : List UInt8) : (bytesC l).size = l.length := by simp [bytesC, flatB]
theorem bytesC_set (l : List UInt8) (i : Nat) (b : UInt8) : (bytesC l).setIfInBounds i (.int .u8 b.toNat) = bytesC (l.set i b) := by
  simp only [bytesC, flatB, List.setIfInBounds_toArray, List.map_set]
theorem bytesC_list (l : List UInt8) : (bytesC l).toList = l.flatMap encB := by simp [bytesC]
theorem made_bytes (n : Nat) : madeCells (Value.int .u8 0).cells n = bytesC (List.replicate n 0) := by
  apply Array.ext
  · rw [size_madeCells, bytesC_size]; simp
  · intro i h1 h2
    have hz : (Value.int .u8 0).cells = #[.int .u8 0] := rfl
    simp [madeCells, bytesC, flatB, hz, Nat.mod_one]
end
section
set_option linter.unusedVariables false
set_option maxRecDepth 8000
set_option linter.unusedSimpArgs false
open Go.RowKit
theorem run_eql_nil {P : Program} {t e : TypeId} (h : P.underlying t = some (.slice e)) (a : Option Addr) (l c : Nat) (w : World) : (binOp .eql t (.slice a l c) (.slice none 0 0)).run P w = .ok (.bool a.isNone) w := by
  simp only [binOp]
  simp [run_equal_slice_nil w t e a l c h]
section
variable {P : Program} {ops : Array Oper} {rest : List Oper} {a : Act} {Q : Exit → Act → World → Prop} {w0 W : World} {L : List It} {dst : Option Tmp} {tt : TypeId} {ps : String} {af : Array Edge}
theorem ry_build {gd : Option (Nat × Bool)} (ty : TypeId) (parts : Array (Nat × Operand)) (vs : List (Nat × Value)) (v : Value) (h : ∀ w, (Instr.build ty vs.toArray).run P w = .ok v w) (hp : parts.toList.map (fun p => (p.1, a.eval p.2)) = vs) :
    (execOp a.eval (Oper.mk dst (.build ty parts) tt ps af gd)).run P W = .ok (.value v) W := by
  have e : (parts.map fun (i, x) => (i, a.eval x)) = vs.toArray := by rw [← hp]; apply Array.ext'; simp
  unfold execOp
  simp only [e, Sem.run_bind, h, Result.andThen_ok, Sem.run_pure]
theorem wl_build (ty : TypeId) (parts : Array (Nat × Operand)) (vs : List (Nat × Value)) (v : Value) (h : ∀ w, (Instr.build ty vs.toArray).run P w = .ok v w) (hp : parts.toList.map (fun p => (p.1, a.eval p.2)) = vs) (hk : wpList P ops Q rest (a.put dst v) W) :
    wpList P ops Q (Oper.mk dst (.build ty parts) tt ps af none :: rest) a W := by
  refine wpList_plain rfl fun K hK => ?_
  have := ry_build (P := P) (a := a) (W := W) (dst := dst) (tt := tt) (ps := ps) (af := af) (gd := none) ty parts vs v h hp
  unfold Oper.wp
  rw [this]
  exact hK _ _ hk
theorem wl_empty (t : TypeId) (e : TypeId) (size : Nat) (ht : P.underlying t = some (.slice e)) (hs : ∀ w, (sizeOf e).run P w = .ok size w) (HM : Mem w0 W L)
    (h : ∀ b W', Mem w0 W' (.row (.slice (some ⟨b, 0, none⟩) 0 0) e size 0 [] :: L) → wpList P ops Q rest (a.put dst (.slice (some ⟨b, 0, none⟩) 0 0)) W') :
    wpList P ops Q (Oper.mk dst (.buildSlice t 0 #[]) tt ps af none :: rest) a W := by
  refine wpList_plain rfl fun K hK => ?_
  have h1 := h W.heap.size (W.alloc (.cells #[] e)) ((HM.new #[] e).toRow size 0 .here (by simp) (by simp [maxLen]))
  unfold Oper.wp execOp
  simp only [Instr.buildSlice, Sem.run_bind, Sem.run_pure, Result.andThen_ok, run_underlying ht, hs, Nat.zero_mul, if_neg (show ¬ 0 > 2 ^ 24 by decide), if_true, newRow]
  have e0 : ∀ f : Nat → Value, Array.map f (Array.range 0) = #[] := fun f => by simp [Array.range]
  simp [Instr.fill, e0]
  exact hK _ _ h1
end
theorem eqlB (a : Option Addr) (l c : Nat) (w : World) : (binOp .eql 24 (.slice a l c) (.slice none 0 0)).run Try.prog w = .ok (.bool a.isNone) w := run_eql_nil Try.underlying24 a l c w
attribute [local go_sem] eqlB in
theorem kc_lit (k : Key) : kc k = #[.int .u8 k[0].toNat, .int .u8 k[1].toNat, .int .u8 k[2].toNat, .int .u8 k[3].toNat, .int .u8 k[4].toNat, .int .u8 k[5].toNat, .int .u8 k[6].toNat, .int .u8 k[7].toNat,
    .int .u8 k[8].toNat, .int .u8 k[9].toNat, .int .u8 k[10].toNat, .int .u8 k[11].toNat, .int .u8 k[12].toNat, .int .u8 k[13].toNat, .int .u8 k[14].toNat, .int .u8 k[15].toNat] := by
  apply Array.ext_getElem?
  intro i
  rcases Nat.lt_or_ge i 16 with h | h
  · rw [kc_at k i h]
    have : i = 0 ∨ i = 1 ∨ i = 2 ∨ i = 3 ∨ i = 4 ∨ i = 5 ∨ i = 6 ∨ i = 7 ∨ i = 8 ∨ i = 9 ∨ i = 10 ∨ i = 11 ∨ i = 12 ∨ i = 13 ∨ i = 14 ∨ i = 15 := by omega
    rcases this with rfl | rfl | rfl | rfl | rfl | rfl | rfl | rfl | rfl | rfl | rfl | rfl | rfl | rfl | rfl | rfl <;> rfl
  · rw [Array.getElem?_eq_none (by rw [kc_size]; exact h), Array.getElem?_eq_none (by simpa using h)]
theorem row_cells {w : World} {B : Nat} {e : TypeId} {size n : Nat} {v : Value} {xs : List Value} (h : w.ownsRow B e size v n xs) : v.cells = #[v] := by
  rcases h.2 with ⟨rfl, _⟩ | ⟨g, cap, cur, rfl, _⟩ <;> rfl
theorem row_one {w : World} {B : Nat} {e : TypeId} {size n : Nat} {v : Value} {xs : List Value} (h : w.ownsRow B e size v n xs) : v.oneCell' = true := by
  rcases h.2 with ⟨rfl, _⟩ | ⟨g, cap, cur, rfl, _⟩ <;> rfl
theorem rd_one {α : Type} {enc : α → List Value} {size : Nat} {w : World} {v : Value} {l : List α} (h : RdL enc size w v l) : v.oneCell' = true := by
  obtain ⟨A, c, rfl, _⟩ := h; rfl
end
section
set_option linter.unusedVariables false
set_option linter.unusedSimpArgs false
set_option maxRecDepth 8000
open Go.RowKit
def writeL (cs : Array Value) (o : Nat) : List Value → Array Value
  | [] => cs
  | v :: vs => writeL (cs.setIfInBounds o v) (o + 1) vs
theorem writeL_size (vs : List Value) : ∀ (cs : Array Value) (o : Nat), (writeL cs o vs).size = cs.size := by
  induction vs with
  | nil => intro cs o; rfl
  | cons v vs ih => intro cs o; rw [writeL, ih]; simp
theorem setCells_turn (b : Nat) (t : TypeId) (vs : List Value) : ∀ (o : Nat) (W : World) (cs : Array Value), W.heap[b]? = some (.cells cs t (0, 0)) →
    W.grownBy (W.setCells b o vs) (some b) ∧ (W.setCells b o vs).heap[b]? = some (.cells (writeL cs o vs) t (0, 0)) := by
  induction vs with
  | nil => intro o W cs h; exact ⟨⟨rfl, rfl, rfl, Nat.le_refl _, fun k _ _ => rfl⟩, h⟩
  | cons v vs ih =>
    intro o W cs h
    have h1 : (W.setCell ⟨b, o, none⟩ v).heap[b]? = some (.cells (cs.setIfInBounds o v) t (0, 0)) := by
      rw [setCell_eq_setRow' W b o cs t v h]; exact setRow_heap W b cs _ t (0, 0) h
    obtain ⟨h2, h3⟩ := ih (o + 1) _ _ h1
    refine ⟨?_, h3⟩
    have h0 : W.grownBy (W.setCell ⟨b, o, none⟩ v) (some b) := by rw [setCell_eq_setRow' W b o cs t v h]; exact grownBy_setRow W b _
    exact ⟨h2.os.trans h0.os, h2.tape.trans h0.tape, h2.output.trans h0.output, Nat.le_trans h0.size h2.size, fun k hk hne => (h2.block k (Nat.lt_of_lt_of_le hk h0.size) hne).trans (h0.block k hk hne)⟩
theorem run_build_key0 (w : World) : (Instr.build 23 #[]).run Try.prog w = .ok (.agg (kc zeroKey)) w := by
  rw [← kc_zero]
  simp [Instr.build, Try.zeroValue23, run_underlying Try.underlying23, Try.sizeOf5, Instr.fill, show ∀ cs, (Value.agg cs).cells = cs from fun _ => rfl]
theorem keyEqI (a b : Key) (w : World) : (Op.equalIn 10000 23 (.agg (kc a)) (.agg (kc b))).run Try.prog w = .ok (decide (a = b)) w :=
  run_eq_key 9998 Try.underlying23 Try.underlying5 Try.sizeOf5 a b w
end
section
set_option linter.unusedVariables false
set_option linter.unusedSimpArgs false
set_option maxRecDepth 8000
open Go.RowKit
theorem xorK_self (a : Key) : xorK a a = zeroKey := by
  apply Vector.ext; intro i hi; simp [xorK, zeroKey, xorB]
section
attribute [local go_sem] keyEqI bx8
set_option maxHeartbeats 400000 in
theorem xor_c (a b : Key) (w : World) :
    Calls Try.prog 163 #[.agg (kc a), .agg (kc b)] w fun e w' => e = .returned (.agg (kc (xorK a b))) ∧ Mem w w' [] := by
  have HM := Mem.start w
  by_cases hab : a = b
  · subst hab
    go_enter Try.func163, Try.ntmps163
    go_wp2_with (first
      | ((with_reducible refine s_ 2 ?_); go_must (refine wl_box (dst := some 2) (cs := kc a) _ _ _ rfl rfl HM ?_; clear HM; intro b2 W HM))
      | ((with_reducible refine s_ 3 ?_); go_must (refine wl_box (dst := some 3) (cs := kc a) _ _ _ rfl rfl HM ?_; clear HM; intro b3 W HM))
      | ((with_reducible refine s_ 4 ?_); go_must (refine wl_alloc (dst := some 4) (cs := kc zeroKey) 23 _ Try.zeroValue23 kc_zero HM ?_; clear HM; intro b4 W HM))
      | ((with_reducible refine s_ 9 ?_); go_must (refine wl_build (dst := some 9) _ _ _ _ (run_build_key0) rfl ?_))
      | ((with_reducible refine ld_ 23 ?_); go_must (refine wl_load_blk _ _ _ _ _ _ rfl HM (by repeat first | exact List.mem_cons_self .. | refine List.mem_cons_of_mem _ ?_) Try.underlying23 rfl (by rw [kc_size]; exact sz23) ?_))
      | ((with_reducible refine st_ 23 ?_); go_must ((refine wl_store_blk _ _ _ _ _ _ _ rfl rfl HM .here (by rw [kc_size]; exact sz23) (by simp only [kc_size]) (kc_one _) ?_); clear HM; intro W HM)))
    refine ret1 rfl (by (exact res_row HM rfl m0 Try.underlying23 rfl (by rw [kc_size]; exact sz23))) rfl ?_
    exact ⟨by rw [xorK_self], HM.base⟩
  · have hab' := hab
    go_enter Try.func163, Try.ntmps163
    go_wp2_with (first
      | ((with_reducible refine s_ 2 ?_); go_must (refine wl_box (dst := some 2) (cs := kc a) _ _ _ rfl rfl HM ?_; clear HM; intro b2 W HM))
      | ((with_reducible refine s_ 3 ?_); go_must (refine wl_box (dst := some 3) (cs := kc b) _ _ _ rfl rfl HM ?_; clear HM; intro b3 W HM))
      | ((with_reducible refine s_ 4 ?_); go_must (refine wl_alloc (dst := some 4) (cs := kc zeroKey) 23 _ Try.zeroValue23 kc_zero HM ?_; clear HM; intro b4 W HM))
      | ((with_reducible refine ld_ 23 ?_); go_must (refine wl_load_blk _ _ _ _ _ _ rfl HM (by repeat first | exact List.mem_cons_self .. | refine List.mem_cons_of_mem _ ?_) Try.underlying23 rfl (by rw [kc_size]; exact sz23) ?_)))
    go_loopw [5, 10] (fun q i wr => ∃ j : Nat, j ≤ 16 ∧ i = .int .i64 j ∧ Mem w wr [.blk b4 (kc zeroKey) 23, .blk b3 (kc b) 23, .blk b2 (kc (xorTo a b j)) 23])
      (fun _ i _ => 16 - (intOf i).toNat)
    case atStart => exact ⟨0, by omega, rfl, by rw [xorTo_zero]; exact HM⟩
    case round =>
      clear HM
      obtain ⟨j, hj, rfl, HM⟩ := hrel
      by_cases hlt : j < 16
      · have hca : (kc (xorTo a b j))[j]? = some (.int .u8 (a[j]'hlt).toNat) := by rw [kc_at _ j hlt, xorTo_at]
        have hb1 : (j : Int) < 16 := by omega
        go_wp2_with (fail)
        replace HM := HM.drew
        refine wp_region_mixN (fun W => Held w W [.blk b3 (kc b) 23, .blk b2 (kc (xorTo a b j)) 23]) (fun W => Held w W [.blk b3 (kc b) 23]) (.cons (2, 0) (.cons (2, 1) (.cons (1, 2) (.cons (2, 3) (.cons (2, 4) (.cons (2, 5) (.cons (2, 6) (.cons (2, 7) (.cons (3, 8) .nil))))))))) [8] (by kernel_rfl) (by kernel_rfl) (by kernel_rfl) (fun W h => Held.weak h (by simp)) (HM.held (by simp)) ?_
        revert HM; generalize World.drew _ = W; intro HM
        have HS1 : Held w W [.blk b3 (kc b) 23, .blk b2 (kc (xorTo a b j)) 23] := HM.held (by simp)
        have HS2 : Held w W [.blk b3 (kc b) 23] := HM.held (by simp)
        refine wm_q2 (i := 0) (some 13) rfl rfl rfl HS2 (fun W HS => by (go_simp; try with_reducible rfl)) ?_
        simp only [Act.put, List.getElem_toArray, List.getElem_cons_succ, List.getElem_cons_zero, List.setIfInBounds_toArray, List.set_cons_succ, List.set_cons_zero]
        refine wm_q2 (i := 1) (some 14) rfl rfl rfl HS2 (fun W HS => by (go_simp; try with_reducible rfl)) ?_
        simp only [Act.put, List.getElem_toArray, List.getElem_cons_succ, List.getElem_cons_zero, List.setIfInBounds_toArray, List.set_cons_succ, List.set_cons_zero]
        refine wm_q1 (i := 2) (some 15) rfl rfl rfl HS1 (fun W HS => (by ((refine ry_load_cell _ _ _ _ _ _ (.int .u8 (a[j]'hlt).toNat) _ HS ?_ m1 (hca) Try.underlying5 rfl; rfl)))) ?_
        simp only [Act.put, List.getElem_toArray, List.getElem_cons_succ, List.getElem_cons_zero, List.setIfInBounds_toArray, List.set_cons_succ, List.set_cons_zero]
        refine wm_q2 (i := 3) (some 16) rfl rfl rfl HS2 (fun W HS => by (go_simp; try with_reducible rfl)) ?_
        simp only [Act.put, List.getElem_toArray, List.getElem_cons_succ, List.getElem_cons_zero, List.setIfInBounds_toArray, List.set_cons_succ, List.set_cons_zero]
        refine wm_q2 (i := 4) (some 17) rfl rfl rfl HS2 (fun W HS => by (go_simp; try with_reducible rfl)) ?_
        simp only [Act.put, List.getElem_toArray, List.getElem_cons_succ, List.getElem_cons_zero, List.setIfInBounds_toArray, List.set_cons_succ, List.set_cons_zero]
        refine wm_q2 (i := 5) (some 18) rfl rfl rfl HS2 (fun W HS => (by ((refine ry_load_cell _ _ _ _ _ _ (.int .u8 (b[j]'hlt).toNat) _ HS ?_ m0 (kc_at b j hlt) Try.underlying5 rfl; rfl)))) ?_
        simp only [Act.put, List.getElem_toArray, List.getElem_cons_succ, List.getElem_cons_zero, List.setIfInBounds_toArray, List.set_cons_succ, List.set_cons_zero]
        refine wm_q2 (i := 6) (some 19) rfl rfl rfl HS2 (fun W HS => by (go_simp; try with_reducible rfl)) ?_
        simp only [Act.put, List.getElem_toArray, List.getElem_cons_succ, List.getElem_cons_zero, List.setIfInBounds_toArray, List.set_cons_succ, List.set_cons_zero]
        refine wm_q2 (i := 7) (some 20) rfl rfl rfl HS2 (fun W HS => by (go_simp; try with_reducible rfl)) ?_
        simp only [Act.put, List.getElem_toArray, List.getElem_cons_succ, List.getElem_cons_zero, List.setIfInBounds_toArray, List.set_cons_succ, List.set_cons_zero]
        refine wm_e3 (i := 8) rfl ?_
        go_wp2_with (first
          | ((with_reducible refine st_ 5 ?_); go_must ((refine wl_store_cell _ _ _ _ _ _ _ _ _ rfl rfl HM (.there (.there .here)) sz5 rfl (by first | omega | (simp; done) | (simp [kc_size]; done) | (simp [kc_size]; omega) | (simp only [Array.size_setIfInBounds, bytesC_size, List.length_append, List.length_replicate, List.length_set]; omega)) rfl ?_); clear HM; intro W HM; try (simp only [Act.eval, Array.getD_eq_getD_getElem?, List.getElem?_toArray, List.getElem?_cons_succ, List.getElem?_cons_zero, Option.getD_some, List.setIfInBounds_toArray, List.set_cons_succ, List.set_cons_zero] at HM))))
        refine ⟨HM.held (by simp), ?_⟩
        clear HS1 HS2
        have HS1 : True := trivial
        have HS2 : Held w W [.blk b3 (kc b) 23] := HM.held (by simp)
        refine wm_nilN ?_
        clear HS1 HS2
        go_wp2_with (fail)
        rw [kc_set _ _ hlt, xorTo_set a b j hlt] at HM
        go_roundw
        case rel => exact ⟨j + 1, by omega, by go_num, HM⟩
        case measure => simp [intOf]; omega
      · obtain rfl : j = 16 := by omega
        rw [xorTo_end] at HM
        go_wp2_with (first
          | ((with_reducible refine ld_ 23 ?_); go_must (refine wl_load_blk _ _ _ _ _ _ rfl HM (by repeat first | exact List.mem_cons_self .. | refine List.mem_cons_of_mem _ ?_) Try.underlying23 rfl (by rw [kc_size]; exact sz23) ?_))
          | ((with_reducible refine st_ 23 ?_); go_must ((refine wl_store_blk _ _ _ _ _ _ _ rfl rfl HM .here (by rw [kc_size]; exact sz23) (by simp only [kc_size]) (kc_one _) ?_); clear HM; intro W HM)))
        refine ret1 rfl (by (exact res_row HM rfl m0 Try.underlying23 rfl (by rw [kc_size]; exact sz23))) rfl ?_
        exact ⟨rfl, HM.base⟩
end
def digStep (s p : Key) : Key := xorK (encryptK p s) s
set_option maxHeartbeats 400000 in
theorem hash1_c (s p : Key) (w : World) :
    Calls Try.prog 162 #[.agg (kc s), .agg (kc p)] w fun e w' => e = .returned (.agg (kc (digStep s p))) ∧ Mem w w' [] := by
  have HM := Mem.start w
  go_enter Try.func162, Try.ntmps162
  go_wp2_with (first
    | ((with_reducible refine s_ 2 ?_); go_must (refine wl_box (dst := some 2) (cs := kc s) _ _ _ rfl rfl HM ?_; clear HM; intro b2 W HM))
    | ((with_reducible refine s_ 3 ?_); go_must (refine wl_box (dst := some 3) (cs := kc p) _ _ _ rfl rfl HM ?_; clear HM; intro b3 W HM))
    | ((with_reducible refine s_ 4 ?_); go_must (refine wl_alloc (dst := some 4) (cs := kc zeroKey) 23 _ Try.zeroValue23 kc_zero HM ?_; clear HM; intro b4 W HM)))
  replace HM := HM.drew
  refine wp_region_mixN (fun W => Held w W [.blk b3 (kc p) 23, .blk b2 (kc s) 23]) (fun W => Held w W [.blk b3 (kc p) 23, .blk b2 (kc s) 23]) (.cons (2, 0) (.cons (2, 1) (.cons (2, 3) (.cons (0, 2) (.cons (0, 4) (.cons (0, 5) .nil)))))) [] (by kernel_rfl) (by kernel_rfl) (by kernel_rfl) (fun W h => Held.weak h (by simp)) (HM.held (by simp)) ?_
  revert HM; generalize World.drew _ = W; intro HM
  have HS1 : Held w W [.blk b3 (kc p) 23, .blk b2 (kc s) 23] := HM.held (by simp)
  have HS2 : Held w W [.blk b3 (kc p) 23, .blk b2 (kc s) 23] := HM.held (by simp)
  refine wm_q2 (i := 0) (some 5) rfl rfl rfl HS2 (fun W HS => (by ((refine ry_load_blk _ _ _ _ _ _ HS ?_ m0 Try.underlying23 rfl (by rw [kc_size]; exact sz23); rfl)))) ?_
  simp only [Act.put, List.getElem_toArray, List.getElem_cons_succ, List.getElem_cons_zero, List.setIfInBounds_toArray, List.set_cons_succ, List.set_cons_zero]
  refine wm_q2 (i := 1) (some 6) rfl rfl rfl HS2 (fun W HS => (by ((refine ry_load_blk _ _ _ _ _ _ HS ?_ m1 Try.underlying23 rfl (by rw [kc_size]; exact sz23); rfl)))) ?_
  simp only [Act.put, List.getElem_toArray, List.getElem_cons_succ, List.getElem_cons_zero, List.setIfInBounds_toArray, List.set_cons_succ, List.set_cons_zero]
  refine wm_q2 (i := 3) (some 8) rfl rfl rfl HS2 (fun W HS => (by ((refine ry_load_blk _ _ _ _ _ _ HS ?_ m1 Try.underlying23 rfl (by rw [kc_size]; exact sz23); rfl)))) ?_
  simp only [Act.put, List.getElem_toArray, List.getElem_cons_succ, List.getElem_cons_zero, List.setIfInBounds_toArray, List.set_cons_succ, List.set_cons_zero]
  refine wm_e0 (i := 2) rfl ?_
  go_wp2_with (first
    | (go_at_call 53; go_must (((with_reducible refine (encrypt_c _ _ _).mono ?_)); rintro e W ⟨rfl, HM'⟩; replace HM := HM.keep HM'.below; clear HM')))
  refine ⟨HM.held (by simp), ?_⟩
  clear HS1 HS2
  have HS1 : Held w W [.blk b3 (kc p) 23, .blk b2 (kc s) 23] := HM.held (by simp)
  have HS2 : Held w W [.blk b3 (kc p) 23, .blk b2 (kc s) 23] := HM.held (by simp)
  refine wm_e0 (i := 4) rfl ?_
  go_wp2_with (first
    | (go_at_call 163; go_must (((with_reducible refine (xor_c _ _ _).mono ?_)); rintro e W ⟨rfl, HM'⟩; replace HM := HM.keep HM'.below; clear HM')))
  refine ⟨HM.held (by simp), ?_⟩
  clear HS1 HS2
  have HS1 : Held w W [.blk b3 (kc p) 23, .blk b2 (kc s) 23] := HM.held (by simp)
  have HS2 : Held w W [.blk b3 (kc p) 23, .blk b2 (kc s) 23] := HM.held (by simp)
  refine wm_e0 (i := 5) rfl ?_
  go_wp2_with (first
    | ((with_reducible refine st_ 23 ?_); go_must ((refine wl_store_blk _ _ _ _ _ _ _ rfl rfl HM .here (by rw [kc_size]; exact sz23) (by simp only [kc_size]) (kc_one _) ?_); clear HM; intro W HM)))
  refine ⟨HM.held (by simp), ?_⟩
  clear HS1 HS2
  have HS1 : Held w W [.blk b3 (kc p) 23, .blk b2 (kc s) 23] := HM.held (by simp)
  have HS2 : Held w W [.blk b3 (kc p) 23, .blk b2 (kc s) 23] := HM.held (by simp)
  refine wm_nilN ?_
  clear HS1 HS2
  go_wp2_with (fail)
  refine ret1 rfl (by (exact res_row HM rfl m0 Try.underlying23 rfl (by rw [kc_size]; exact sz23))) rfl ?_
  exact ⟨rfl, HM.base⟩
def digTo (s : Key) (l : List UInt8) (i : Nat) : Key := (List.range i).foldl (fun s i => digStep s (keyL (l.drop (16 * i)))) s
theorem digTo_succ (s : Key) (l : List UInt8) (i : Nat) : digTo s l (i + 1) = digStep (digTo s l i) (keyL (l.drop (16 * i))) := by
  simp [digTo, List.range_succ]
theorem keyL_copy (l : List UInt8) : (((l.take 16).flatMap encB) ++ (kc zeroKey).toList.drop (min l.length 16)).toArray = kc (keyL l) := by
  apply Array.ext_getElem?
  intro i
  rcases Nat.lt_or_ge i 16 with hi | hi
  · rw [kc_at _ i hi, List.getElem?_toArray, flatB]
    rcases Nat.lt_or_ge i l.length with hl | hl
    · rw [List.getElem?_append_left (by simp; omega)]
      simp [keyL, hi, hl]
    · have e : min l.length 16 = l.length := by omega
      rw [List.getElem?_append_right (by simp; omega), e]
      have h0 := kc_at zeroKey i hi
      rw [← Array.getElem?_toList] at h0
      rw [List.getElem?_drop]
      have e2 : l.length + (i - (List.map (fun x => Value.int .u8 (x.toNat : Int)) (l.take 16)).length) = i := by simp; omega
      rw [e2, h0]
      simp [keyL, zeroKey, hl]
  · rw [List.getElem?_toArray, List.getElem?_eq_none (by simp [flatB, kc_size]; omega), Array.getElem?_eq_none (by rw [kc_size]; exact hi)]
def lenOf : Value → Nat
  | .slice _ n _ => n
  | _ => 0
theorem lenOf_rd {α : Type} {enc : α → List Value} {size : Nat} {w : World} {v : Value} {l : List α} (h : RdL enc size w v l) : lenOf v = l.length := by
  obtain ⟨A, c, rfl, _⟩ := h; rfl
set_option maxHeartbeats 800000 in
theorem fold_c (s : Key) (v : Value) (l : List UInt8) (n : Nat) (w : World) (hR : RdL encB 1 w v l) (hn : l.length = 16 * n) (hl : l.length ≤ 1073741824) :
    Calls Try.prog 161 #[.agg (kc s), v, .func (.func 162) #[] #[]] w fun e w' => e = .returned (.agg (kc (digTo s l n))) ∧ Mem w w' [] := by
  have HM := Mem.start w
  go_enter Try.func161, Try.ntmps161
  go_wp2_with (first
    | ((with_reducible refine s_ 3 ?_); go_must (refine wl_box (dst := some 3) (cs := kc s) _ _ _ rfl rfl HM ?_; clear HM; intro b3 W HM))
    | ((with_reducible refine s_ 6 ?_); go_must (refine wl_alloc (dst := some 6) (cs := kc zeroKey) 23 _ Try.zeroValue23 kc_zero HM ?_; clear HM; intro b6 W HM)))
  simp only [Act.put, List.getElem_toArray, List.getElem_cons_succ, List.getElem_cons_zero, List.setIfInBounds_toArray, List.set_cons_succ, List.set_cons_zero]
  go_loopw [1, 7] (fun b q wr => ∃ i : Nat, i ≤ n ∧ RdL encB 1 w b (l.drop (16 * i)) ∧ Mem w wr [.blk b6 (kc zeroKey) 23, .blk b3 (kc (digTo s l i)) 23])
    (fun b _ _ => lenOf b)
  case atStart => exact ⟨0, by omega, by simpa using hR, HM⟩
  case round =>
    clear HM
    obtain ⟨i, hi, hRj, HM⟩ := hrel
    have hlen : (l.drop (16 * i)).length = 16 * n - 16 * i := by simp [hn]
    by_cases hlt : i < n
    · have hb1 : (0 : Int) < ((l.drop (16 * i)).length : Int) := by omega
      have hmin : min (l.drop (16 * i)).length 16 = 16 := by omega
      go_wp2_with (first
        | ((with_reducible refine s_ 9 ?_); go_must ((refine wl_len (dst := some 9) _ _ _ _ 5 Try.underlying24 rfl (hRj) ?_)))
        | ((with_reducible refine s_ 7 ?_); go_must (refine wl_alloc (dst := some 7) (cs := kc zeroKey) 23 _ Try.zeroValue23 kc_zero HM ?_; clear HM; intro b7 W HM))
        | ((with_reducible refine s_ 14 ?_); go_must ((refine wl_copy (dst := some 14) _ _ _ _ _ _ _ _ _ _ _ (l.drop (16 * i)) Try.underlying24 sz5 encB_len encB_one rfl rfl HM .here (hRj.mem HM) (by rw [kc_size]; decide) ?_; clear HM; intro W HM; (try dsimp only at HM); rw [keyL_copy] at HM; rw [hmin])))
        | ((with_reducible refine s_ 15 ?_); go_must ((refine wl_slice_lo (dst := some 15) _ 5 _ _ _ _ _ _ encB_len Try.underlying24 sz5 rfl rfl (hRj) (by omega) (by omega) ?_); intro v15 hv15))
        | ((with_reducible refine ld_ 23 ?_); go_must (refine wl_load_blk _ _ _ _ _ _ rfl HM (by repeat first | exact List.mem_cons_self .. | refine List.mem_cons_of_mem _ ?_) Try.underlying23 rfl (by rw [kc_size]; exact sz23) ?_))
        | ((with_reducible refine st_ 23 ?_); go_must ((refine wl_store_blk _ _ _ _ _ _ _ rfl rfl HM (.there (.there .here)) (by rw [kc_size]; exact sz23) (by simp only [kc_size]) (kc_one _) ?_); clear HM; intro W HM))
        | (go_at_call 162; go_must (((with_reducible refine (hash1_c _ _ _).mono ?_)); rintro e W ⟨rfl, HM'⟩; replace HM := HM.keep HM'.below; clear HM')))
      rw [List.drop_drop] at hv15
      have e16 : 16 * i + ((16 : Nat) : Int).toNat = 16 * (i + 1) := by omega
      rw [e16] at hv15
      rw [← digTo_succ] at HM
      simp only [Act.put, List.getElem_toArray, List.getElem_cons_succ, List.getElem_cons_zero, List.setIfInBounds_toArray, List.set_cons_succ, List.set_cons_zero]
      go_roundw
      case rel => exact ⟨i + 1, by omega, hv15, HM.tail⟩
      case measure => rw [lenOf_rd hv15, lenOf_rd hRj]; simp; omega
    · obtain rfl : i = n := by omega
      have hb1 : ¬ (0 : Int) < ((l.drop (16 * i)).length : Int) := by omega
      go_wp2_with (first
        | ((with_reducible refine s_ 9 ?_); go_must ((refine wl_len (dst := some 9) _ _ _ _ 5 Try.underlying24 rfl (hRj) ?_)))
        | ((with_reducible refine ld_ 23 ?_); go_must (refine wl_load_blk _ _ _ _ _ _ rfl HM (by repeat first | exact List.mem_cons_self .. | refine List.mem_cons_of_mem _ ?_) Try.underlying23 rfl (by rw [kc_size]; exact sz23) ?_))
        | ((with_reducible refine st_ 23 ?_); go_must ((refine wl_store_blk _ _ _ _ _ _ _ rfl rfl HM .here (by rw [kc_size]; exact sz23) (by simp only [kc_size]) (kc_one _) ?_); clear HM; intro W HM)))
      refine ret1 rfl (by (exact res_row HM rfl m0 Try.underlying23 rfl (by rw [kc_size]; exact sz23))) rfl ?_
      exact ⟨rfl, HM.base⟩
end
section
set_option linter.unusedVariables false
set_option linter.unusedSimpArgs false
set_option maxRecDepth 8000
open Go.RowKit
def padZ (n : Nat) : Nat := (16 - (n + 9) % 16) % 16
def padL (l : List UInt8) : List UInt8 := l ++ ([128] ++ List.replicate (padZ l.length) 0 ++ bytesN (UInt64.ofNat l.length) 8)
theorem padL_len (l : List UInt8) : (padL l).length = l.length + 9 + padZ l.length := by simp [padL, bytesN_len]; omega
def startKey : Key := Vector.replicate 16 90
def digestL (l : List UInt8) : Key := digTo startKey (padL l) ((l.length + 9 + padZ l.length) / 16)
theorem padZ_mod (n : Nat) : (n + 9 + padZ n) % 16 = 0 := by simp only [padZ]; omega
def fill (j : Nat) : Key := Vector.ofFn fun i : Fin 16 => if i.1 < j then 90 else 0
theorem fill_zero : fill 0 = zeroKey := by apply Vector.ext; intro i hi; simp [fill, zeroKey]
theorem fill_end : fill 16 = startKey := by apply Vector.ext; intro i hi; simp [fill, startKey, hi]
theorem fill_set (j : Nat) (h : j < 16) : (fill j).set j 90 = fill (j + 1) := by
  apply Vector.ext; intro i hi
  rw [Vector.getElem_set]
  simp only [fill, Vector.getElem_ofFn]
  by_cases e : j = i
  · subst e; simp
  · rw [if_neg e]
    by_cases h1 : i < j
    · simp [h1, show i < j + 1 by omega]
    · simp [h1, show ¬ i < j + 1 by omega]
attribute [irreducible] fill
def lenHi (n : Nat) : UInt8 := UInt8.ofNat (n / 256)
def lenLo (n : Nat) : UInt8 := UInt8.ofNat n
theorem bytesN_small (n : Nat) (h : n < 65536) : bytesN (UInt64.ofNat n) 8 = [0, 0, 0, 0, 0, 0, lenHi n, lenLo n] := by
  have e : (UInt64.ofNat n).toNat = n := by rw [UInt64.toNat_ofNat']; omega
  have z : ∀ i, 2 ≤ i → byteAt (UInt64.ofNat n) i = 0 := by
    intro i hi
    rw [byteAt, e]
    have : n / 256 ^ i = 0 := Nat.div_eq_of_lt (Nat.lt_of_lt_of_le h (show 256 ^ 2 ≤ 256 ^ i from Nat.pow_le_pow_right (by decide) hi))
    rw [this]; rfl
  have h1 : byteAt (UInt64.ofNat n) 1 = lenHi n := by rw [byteAt, e]; rfl
  have h0 : byteAt (UInt64.ofNat n) 0 = lenLo n := by rw [byteAt, e]; simp [lenLo]
  simp only [bytesN, h1, h0, z 7 (by decide), z 6 (by decide), z 5 (by decide), z 4 (by decide), z 3 (by decide), z 2 (by decide)]
theorem rep_add (a b : Nat) (x : UInt8) : List.replicate (a + b) x = List.replicate a x ++ List.replicate b x := List.replicate_append_replicate.symm
theorem set_tail (l : List UInt8) (z : Nat) (a b c : UInt8) :
    (((l ++ 0 :: (List.replicate z 0 ++ [0, 0])).set l.length a).set (l.length + (z + 1)) b).set (l.length + (z + 2)) c = l ++ a :: (List.replicate z 0 ++ [b, c]) := by
  have h1 : (l ++ 0 :: (List.replicate z 0 ++ [0, 0])).set l.length a = l ++ a :: (List.replicate z 0 ++ [0, 0]) := by
    rw [List.set_append_right _ _ (Nat.le_refl _), Nat.sub_self]; rfl
  have h2 : (l ++ a :: (List.replicate z 0 ++ [0, 0])).set (l.length + (z + 1)) b = l ++ a :: (List.replicate z 0 ++ [b, 0]) := by
    rw [List.set_append_right _ _ (Nat.le_add_right _ _), Nat.add_sub_cancel_left, List.set_cons_succ, List.set_append_right _ _ (by rw [List.length_replicate]; exact Nat.le_refl _), List.length_replicate, Nat.sub_self]; rfl
  have h3 : (l ++ a :: (List.replicate z 0 ++ [b, 0])).set (l.length + (z + 2)) c = l ++ a :: (List.replicate z 0 ++ [b, c]) := by
    rw [List.set_append_right _ _ (Nat.le_add_right _ _), Nat.add_sub_cancel_left, List.set_cons_succ, List.set_append_right _ _ (by rw [List.length_replicate]; exact Nat.le_succ _), List.length_replicate, show z + 1 - z = 1 by omega]; rfl
  rw [h1, h2, h3]
theorem padL_set (l : List UInt8) (N : Nat) (hN : N = l.length + 9 + padZ l.length) (h : l.length < 65536) :
    (((l ++ List.replicate (N - l.length) 0).set l.length 128).set (N - 2) (lenHi l.length)).set (N - 1) (lenLo l.length) = padL l := by
  have e2 : List.replicate (N - l.length) (0 : UInt8) = 0 :: (List.replicate (padZ l.length + 6) 0 ++ [0, 0]) := by
    rw [show N - l.length = 1 + ((padZ l.length + 6) + 2) by omega, rep_add, rep_add]; rfl
  rw [e2, show N - 2 = l.length + ((padZ l.length + 6) + 1) by omega, show N - 1 = l.length + ((padZ l.length + 6) + 2) by omega, set_tail, padL, bytesN_small _ h, rep_add]
  simp [List.replicate]
theorem copy_bytes (l : List UInt8) (N : Nat) (h : l.length ≤ N) : ((l.take N).flatMap encB ++ (bytesC (List.replicate N 0)).toList.drop (min l.length N)).toArray = bytesC (l ++ List.replicate (N - l.length) 0) := by
  have e1 : min l.length N = l.length := by omega
  have e2 : l.take N = l := List.take_of_length_le h
  rw [e1, e2, bytesC_list, bytesC, List.flatMap_append]
  congr 2
  rw [flatB, flatB, ← List.map_drop, List.drop_replicate]
theorem set128 (l : List UInt8) (i : Nat) : (bytesC l).setIfInBounds i (.int .u8 128) = bytesC (l.set i 128) := bytesC_set l i 128
theorem padZ_lt (n : Nat) : padZ n < 16 := by simp only [padZ]; omega
set_option maxHeartbeats 1600000 in
theorem hash_c (v : Value) (l : List UInt8) (w : World) (hR : RdL encB 1 w v l) (hl : l.length ≤ 16384) :
    Calls Try.prog 148 #[v] w fun e w' => e = .returned (.tuple #[.agg (kc (digestL l)), .int .i64 0]) ∧ Mem w w' [] := by
  have HM := Mem.start w
  have hl0 : ¬ (16384 : Int) < (l.length : Int) := by omega
  obtain ⟨N, hN⟩ : ∃ N, N = l.length + 9 + padZ l.length := ⟨_, rfl⟩
  have hNmod : N % 16 = 0 := by rw [hN]; exact padZ_mod _
  have hz := padZ_lt l.length
  have hset := padL_set l N hN (by omega)
  have hpl : (padL l).length = N := by rw [padL_len, hN]
  have hNlo : l.length + 9 ≤ N := by omega
  have hNhi : N ≤ 16408 := by omega
  have hNup : N < l.length + 25 := by omega
  clear hN hz
  have h1 : IntKind.i64.wrap ((l.length : Int) / 16 * 16) = (l.length : Int) / 16 * 16 := by rw [IntKind.wrap_i64]; omega
  have h2 : IntKind.i64.wrap ((l.length : Int) / 16 * 16 + 16) = (l.length : Int) / 16 * 16 + 16 := by rw [IntKind.wrap_i64]; omega
  have h4 : IntKind.i64.wrap ((N : Int) - 2) = (N : Int) - 2 := by rw [IntKind.wrap_i64]; omega
  have h5 : IntKind.i64.wrap ((N : Int) - 1) = (N : Int) - 1 := by rw [IntKind.wrap_i64]; omega
  have i1 : (l.length : Int) < (N : Int) := by omega
  have i2 : 0 ≤ (N : Int) - 2 := by omega
  have i3 : (N : Int) - 2 < (N : Int) := by omega
  have i4 : ((N : Int) - 2).toNat = N - 2 := by omega
  have i5 : 0 ≤ (N : Int) - 1 := by omega
  have i6 : (N : Int) - 1 < (N : Int) := by omega
  have i7 : ((N : Int) - 1).toNat = N - 1 := by omega
  have u1 : IntKind.u8.wrap ((l.length : Int) / 256) = ((lenHi l.length).toNat : Int) := by rw [IntKind.wrap_u8, lenHi, UInt8.toNat_ofNat']; omega
  have u2 : IntKind.u8.wrap (l.length : Int) = ((lenLo l.length).toNat : Int) := by rw [IntKind.wrap_u8, lenLo, UInt8.toNat_ofNat']; omega
  by_cases h7 : l.length % 16 ≤ 7
  · have h8 : ¬ (7 : Int) < (l.length : Int) % 16 := by omega
    have h9 : (l.length : Int) / 16 * 16 + 16 = (N : Int) := by omega
    go_enter Try.func148, Try.ntmps148
    go_wp2_with (first
      | ((with_reducible refine s_ 2 ?_); go_must (refine wl_alloc (dst := some 2) (cs := kc zeroKey) 23 _ Try.zeroValue23 kc_zero HM ?_; clear HM; intro b2 W HM))
      | ((with_reducible refine s_ 9 ?_); go_must ((refine wl_len (dst := some 9) _ _ _ _ 5 Try.underlying24 rfl (hR.mem HM) ?_)))
      | ((with_reducible refine s_ 13 ?_); go_must ((refine wl_len (dst := some 13) _ _ _ _ 5 Try.underlying24 rfl (hR.mem HM) ?_)))
      | ((with_reducible refine s_ 18 ?_); go_must ((refine wl_len (dst := some 18) _ _ _ _ 5 Try.underlying24 rfl (hR.mem HM) ?_)))
      | ((with_reducible refine s_ 24 ?_); go_must ((refine wl_make (dst := some 24) _ _ _ _ _ _ _ _ _ _ Try.underlying24 inf5 rfl rfl (by omega) (by decide) (by omega) HM ?_; clear HM; intro b24 W HM; rw [Int.toNat_natCast, Nat.mul_one, made_bytes] at HM; rw [Int.toNat_natCast])))
      | ((with_reducible refine s_ 27 ?_); go_must ((refine wl_copy (dst := some 27) _ _ _ _ _ _ _ _ _ _ _ l Try.underlying24 sz5 encB_len encB_one rfl rfl HM .here (hR.mem HM) (by rw [bytesC_size, List.length_replicate]; omega) ?_; clear HM; intro W HM; (try dsimp only at HM); rw [copy_bytes l N (by omega)] at HM)))
      | ((with_reducible refine s_ 30 ?_); go_must ((refine wl_len (dst := some 30) _ _ _ _ 5 Try.underlying24 rfl (hR.mem HM) ?_)))
      | ((with_reducible refine s_ 39 ?_); go_must ((refine wl_len (dst := some 39) _ _ _ _ 5 Try.underlying24 rfl (hR.mem HM) ?_)))
      | ((with_reducible refine s_ 43 ?_); go_must ((refine wl_len (dst := some 43) _ _ _ _ 5 Try.underlying24 rfl (hR.mem HM) ?_)))
      | ((with_reducible refine s_ 6 ?_); go_must (refine wl_alloc (dst := some 6) (cs := kc zeroKey) 23 _ Try.zeroValue23 kc_zero HM ?_; clear HM; intro b6 W HM))
      | ((with_reducible refine st_ 5 ?_); go_must ((refine wl_store_cell _ _ _ _ _ _ _ _ _ rfl rfl HM .here sz5 rfl (by first | omega | (simp; done) | (simp [kc_size]; done) | (simp [kc_size]; omega) | (simp only [Array.size_setIfInBounds, bytesC_size, List.length_append, List.length_replicate, List.length_set]; omega)) rfl ?_); clear HM; intro W HM; try (simp only [Act.eval, Array.getD_eq_getD_getElem?, List.getElem?_toArray, List.getElem?_cons_succ, List.getElem?_cons_zero, Option.getD_some, List.setIfInBounds_toArray, List.set_cons_succ, List.set_cons_zero] at HM))))
    rw [set128, bytesC_set, bytesC_set, hset] at HM
    go_loopw [7, 47] (fun q i wr => ∃ j : Nat, j ≤ 16 ∧ i = .int .i64 j ∧ Mem w wr [.blk b6 (kc (fill j)) 23, .blk b24 (bytesC (padL l)) 5, .blk b2 (kc zeroKey) 23])
      (fun _ i _ => 16 - (intOf i).toNat)
    case atStart => exact ⟨0, by omega, rfl, by rw [fill_zero]; exact HM⟩
    case round =>
      clear HM
      obtain ⟨j, hj, rfl, HM⟩ := hrel
      by_cases hlt : j < 16
      · have hb1 : (j : Int) < 16 := by omega
        go_wp2_with (first
          | ((with_reducible refine st_ 5 ?_); go_must ((refine wl_store_cell _ _ _ _ _ _ _ _ _ rfl rfl HM .here sz5 rfl (by first | omega | (simp; done) | (simp [kc_size]; done) | (simp [kc_size]; omega) | (simp only [Array.size_setIfInBounds, bytesC_size, List.length_append, List.length_replicate, List.length_set]; omega)) rfl ?_); clear HM; intro W HM; try (simp only [Act.eval, Array.getD_eq_getD_getElem?, List.getElem?_toArray, List.getElem?_cons_succ, List.getElem?_cons_zero, Option.getD_some, List.setIfInBounds_toArray, List.set_cons_succ, List.set_cons_zero] at HM))))
        rw [show (kc (fill j)).setIfInBounds j (.int .u8 90) = kc (fill (j + 1)) from by rw [← fill_set j hlt]; exact kc_set _ _ hlt 90] at HM
        go_roundw
        case rel => exact ⟨j + 1, by omega, by go_num, HM⟩
        case measure => simp [intOf]; omega
      · obtain rfl : j = 16 := by omega
        rw [fill_end] at HM
        go_wp2_with (first
          | ((with_reducible refine st_ 23 ?_); go_must ((refine wl_store_blk _ _ _ _ _ _ _ rfl rfl HM (.there (.there .here)) (by rw [kc_size]; exact sz23) (by simp only [kc_size]) (kc_one _) ?_); clear HM; intro W HM))
          | ((with_reducible refine ld_ 23 ?_); go_must (refine wl_load_blk _ _ _ _ _ _ rfl HM (by repeat first | exact List.mem_cons_self .. | refine List.mem_cons_of_mem _ ?_) Try.underlying23 rfl (by rw [kc_size]; exact sz23) ?_))
          | (go_at_call 161; go_must (((with_reducible refine (fold_c _ _ (padL l) (N / 16) _ (RdL.of_blk (HM.blk m1) (padL l) N hpl (bytesC_list _) (by simp only [maxLen]; omega)) (by omega) (by omega)).mono ?_)); rintro e W ⟨rfl, HM'⟩; replace HM := HM.keep HM'.below; clear HM')))
        refine ret2 rfl (by (exact res_row HM rfl m2 Try.underlying23 rfl (by rw [kc_size]; exact sz23))) (res_tmp rfl) rfl ?_
        refine ⟨?_, HM.base⟩
        rw [digestL, ← padL_len, hpl]; rfl
  · have h8 : (7 : Int) < (l.length : Int) % 16 := by omega
    have h3 : IntKind.i64.wrap ((l.length : Int) / 16 * 16 + 16 + 16) = (N : Int) := by rw [IntKind.wrap_i64]; omega
    go_enter Try.func148, Try.ntmps148
    go_wp2_with (first
      | ((with_reducible refine s_ 2 ?_); go_must (refine wl_alloc (dst := some 2) (cs := kc zeroKey) 23 _ Try.zeroValue23 kc_zero HM ?_; clear HM; intro b2 W HM))
      | ((with_reducible refine s_ 9 ?_); go_must ((refine wl_len (dst := some 9) _ _ _ _ 5 Try.underlying24 rfl (hR.mem HM) ?_)))
      | ((with_reducible refine s_ 13 ?_); go_must ((refine wl_len (dst := some 13) _ _ _ _ 5 Try.underlying24 rfl (hR.mem HM) ?_)))
      | ((with_reducible refine s_ 18 ?_); go_must ((refine wl_len (dst := some 18) _ _ _ _ 5 Try.underlying24 rfl (hR.mem HM) ?_)))
      | ((with_reducible refine s_ 24 ?_); go_must ((refine wl_make (dst := some 24) _ _ _ _ _ _ _ _ _ _ Try.underlying24 inf5 rfl rfl (by omega) (by decide) (by omega) HM ?_; clear HM; intro b24 W HM; rw [Int.toNat_natCast, Nat.mul_one, made_bytes] at HM; rw [Int.toNat_natCast])))
      | ((with_reducible refine s_ 27 ?_); go_must ((refine wl_copy (dst := some 27) _ _ _ _ _ _ _ _ _ _ _ l Try.underlying24 sz5 encB_len encB_one rfl rfl HM .here (hR.mem HM) (by rw [bytesC_size, List.length_replicate]; omega) ?_; clear HM; intro W HM; (try dsimp only at HM); rw [copy_bytes l N (by omega)] at HM)))
      | ((with_reducible refine s_ 30 ?_); go_must ((refine wl_len (dst := some 30) _ _ _ _ 5 Try.underlying24 rfl (hR.mem HM) ?_)))
      | ((with_reducible refine s_ 39 ?_); go_must ((refine wl_len (dst := some 39) _ _ _ _ 5 Try.underlying24 rfl (hR.mem HM) ?_)))
      | ((with_reducible refine s_ 43 ?_); go_must ((refine wl_len (dst := some 43) _ _ _ _ 5 Try.underlying24 rfl (hR.mem HM) ?_)))
      | ((with_reducible refine s_ 6 ?_); go_must (refine wl_alloc (dst := some 6) (cs := kc zeroKey) 23 _ Try.zeroValue23 kc_zero HM ?_; clear HM; intro b6 W HM))
      | ((with_reducible refine st_ 5 ?_); go_must ((refine wl_store_cell _ _ _ _ _ _ _ _ _ rfl rfl HM .here sz5 rfl (by first | omega | (simp; done) | (simp [kc_size]; done) | (simp [kc_size]; omega) | (simp only [Array.size_setIfInBounds, bytesC_size, List.length_append, List.length_replicate, List.length_set]; omega)) rfl ?_); clear HM; intro W HM; try (simp only [Act.eval, Array.getD_eq_getD_getElem?, List.getElem?_toArray, List.getElem?_cons_succ, List.getElem?_cons_zero, Option.getD_some, List.setIfInBounds_toArray, List.set_cons_succ, List.set_cons_zero] at HM))))
    rw [set128, bytesC_set, bytesC_set, hset] at HM
    go_loopw [7, 47] (fun q i wr => ∃ j : Nat, j ≤ 16 ∧ i = .int .i64 j ∧ Mem w wr [.blk b6 (kc (fill j)) 23, .blk b24 (bytesC (padL l)) 5, .blk b2 (kc zeroKey) 23])
      (fun _ i _ => 16 - (intOf i).toNat)
    case atStart => exact ⟨0, by omega, rfl, by rw [fill_zero]; exact HM⟩
    case round =>
      clear HM
      obtain ⟨j, hj, rfl, HM⟩ := hrel
      by_cases hlt : j < 16
      · have hb1 : (j : Int) < 16 := by omega
        go_wp2_with (first
          | ((with_reducible refine st_ 5 ?_); go_must ((refine wl_store_cell _ _ _ _ _ _ _ _ _ rfl rfl HM .here sz5 rfl (by first | omega | (simp; done) | (simp [kc_size]; done) | (simp [kc_size]; omega) | (simp only [Array.size_setIfInBounds, bytesC_size, List.length_append, List.length_replicate, List.length_set]; omega)) rfl ?_); clear HM; intro W HM; try (simp only [Act.eval, Array.getD_eq_getD_getElem?, List.getElem?_toArray, List.getElem?_cons_succ, List.getElem?_cons_zero, Option.getD_some, List.setIfInBounds_toArray, List.set_cons_succ, List.set_cons_zero] at HM))))
        rw [show (kc (fill j)).setIfInBounds j (.int .u8 90) = kc (fill (j + 1)) from by rw [← fill_set j hlt]; exact kc_set _ _ hlt 90] at HM
        go_roundw
        case rel => exact ⟨j + 1, by omega, by go_num, HM⟩
        case measure => simp [intOf]; omega
      · obtain rfl : j = 16 := by omega
        rw [fill_end] at HM
        go_wp2_with (first
          | ((with_reducible refine st_ 23 ?_); go_must ((refine wl_store_blk _ _ _ _ _ _ _ rfl rfl HM (.there (.there .here)) (by rw [kc_size]; exact sz23) (by simp only [kc_size]) (kc_one _) ?_); clear HM; intro W HM))
          | ((with_reducible refine ld_ 23 ?_); go_must (refine wl_load_blk _ _ _ _ _ _ rfl HM (by repeat first | exact List.mem_cons_self .. | refine List.mem_cons_of_mem _ ?_) Try.underlying23 rfl (by rw [kc_size]; exact sz23) ?_))
          | (go_at_call 161; go_must (((with_reducible refine (fold_c _ _ (padL l) (N / 16) _ (RdL.of_blk (HM.blk m1) (padL l) N hpl (bytesC_list _) (by simp only [maxLen]; omega)) (by omega) (by omega)).mono ?_)); rintro e W ⟨rfl, HM'⟩; replace HM := HM.keep HM'.below; clear HM')))
        refine ret2 rfl (by (exact res_row HM rfl m2 Try.underlying23 rfl (by rw [kc_size]; exact sz23))) (res_tmp rfl) rfl ?_
        refine ⟨?_, HM.base⟩
        rw [digestL, ← padL_len, hpl]; rfl
end
end Go.Proofs.Ythdekionepfmdaa
