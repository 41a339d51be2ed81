/- Laws of the walk, an operation each, over an opaque world that one fact 'Mem w0 W L' describes. Plain theorems; nothing of the program is named. -/
import Derived.Test.YthdekionepfmdaaMem
set_option linter.unusedVariables false
set_option linter.unusedSimpArgs false
namespace Go.Proofs.Ythdekionepfmdaa
open Go.RowKit

section
variable {P : Program} {ops : Array Oper} {rest : List Oper} {a : Act} {Q : Exit → Act → World → Prop} {w0 W : World} {L : List It} {dst : Option Tmp} {tt : TypeId} {ps : String} {af : Array Edge}

/-! ### Which operation is next: short words for the walk's arms -/
theorem s_ {op : Op} {gd : Option (Nat × Bool)} (d : Nat) (h : wpList P ops Q (Oper.mk (some d) op tt ps af gd :: rest) a W) : wpList P ops Q (Oper.mk (some d) op tt ps af gd :: rest) a W := h
theorem gd_ {op : Op} (g : Nat × Bool) (h : wpList P ops Q (Oper.mk dst op tt ps af (some g) :: rest) a W) : wpList P ops Q (Oper.mk dst op tt ps af (some g) :: rest) a W := h
theorem ld_ {x : Operand} {gd : Option (Nat × Bool)} (t : TypeId) (h : wpList P ops Q (Oper.mk dst (.load t x) tt ps af gd :: rest) a W) : wpList P ops Q (Oper.mk dst (.load t x) tt ps af gd :: rest) a W := h
theorem st_ {x y : Operand} {gd : Option (Nat × Bool)} (t : TypeId) (h : wpList P ops Q (Oper.mk dst (.store t x y) tt ps af gd :: rest) a W) : wpList P ops Q (Oper.mk dst (.store t x y) tt ps af gd :: rest) a W := h
theorem stt_ {y : Operand} {gd : Option (Nat × Bool)} (t : TypeId) (k : Tmp) (h : wpList P ops Q (Oper.mk dst (.store t (.tmp k) y) tt ps af gd :: rest) a W) : wpList P ops Q (Oper.mk dst (.store t (.tmp k) y) tt ps af gd :: rest) a W := h
end
section
variable {α : Type} {a b c d e f g h i j k l m n o p q : α} {L : List α}
theorem m0 : a ∈ a :: L := List.mem_cons_self ..
theorem m1 : a ∈ b :: a :: L := List.mem_cons_of_mem _ m0
theorem m2 : a ∈ b :: c :: a :: L := List.mem_cons_of_mem _ m1
theorem m3 : a ∈ b :: c :: d :: a :: L := List.mem_cons_of_mem _ m2
theorem m4 : a ∈ b :: c :: d :: e :: a :: L := List.mem_cons_of_mem _ m3
theorem m5 : a ∈ b :: c :: d :: e :: f :: a :: L := List.mem_cons_of_mem _ m4
theorem m6 : a ∈ b :: c :: d :: e :: f :: g :: a :: L := List.mem_cons_of_mem _ m5
theorem m7 : a ∈ b :: c :: d :: e :: f :: g :: h :: a :: L := List.mem_cons_of_mem _ m6
theorem m8 : a ∈ b :: c :: d :: e :: f :: g :: h :: i :: a :: L := List.mem_cons_of_mem _ m7
theorem m9 : a ∈ b :: c :: d :: e :: f :: g :: h :: i :: j :: a :: L := List.mem_cons_of_mem _ m8
theorem m10 : a ∈ b :: c :: d :: e :: f :: g :: h :: i :: j :: k :: a :: L := List.mem_cons_of_mem _ m9
theorem m11 : a ∈ b :: c :: d :: e :: f :: g :: h :: i :: j :: k :: l :: a :: L := List.mem_cons_of_mem _ m10
theorem m12 : a ∈ b :: c :: d :: e :: f :: g :: h :: i :: j :: k :: l :: m :: a :: L := List.mem_cons_of_mem _ m11
theorem m13 : a ∈ b :: c :: d :: e :: f :: g :: h :: i :: j :: k :: l :: m :: n :: a :: L := List.mem_cons_of_mem _ m12
end
section
variable {P : Program} {ops : Array Oper} {rest : List Oper} {a : Act} {Q : Exit → Act → World → Prop} {w0 W : World} {L : List It} {dst : Option Tmp} {tt : TypeId} {ps : String} {af : Array Edge}
/-! ### New blocks -/
/-- A guard that says yes is laid off. -/
theorem wl_guard {op : Op} {g : Nat × Bool} (hw : Region.wanted (Oper.mk dst op tt ps af (some g)) (yielded ops a.tmps) = true) (h : wpList P ops Q (Oper.mk dst op tt ps af none :: rest) a W) : wpList P ops Q (Oper.mk dst op tt ps af (some g) :: rest) a W := by
  unfold wpList at h ⊢
  rw [if_pos hw]
  rw [if_pos (by rfl)] at h
  exact h
theorem wl_alloc (ty : TypeId) (z : Value) (cs : Array Value) (hz : ∀ w, (zeroValue ty).run P w = .ok z w) (hcs : z.cells = cs) (HM : Mem w0 W L)
    (h : ∀ b W', Mem w0 W' (.blk b cs ty :: L) → wpList P ops Q rest (a.put dst (.pointer (some ⟨b, 0, none⟩))) W') :
    wpList P ops Q (Oper.mk dst (.alloc ty) tt ps af none :: rest) a W := by
  refine wpList_plain rfl fun K hK => ?_
  have h1 := h W.heap.size (W.alloc (.cells cs ty)) (HM.new cs ty)
  unfold Oper.wp execOp
  simp only [Instr.alloc, Sem.run_bind, Sem.run_pure, Result.andThen_ok, hz, newVar, newRow, run_newObj, hcs]
  exact hK _ _ h1

theorem wl_box (ty : TypeId) (x : Operand) (v : Value) (cs : Array Value) (hx : a.eval x = v) (hcs : v.cells = cs) (HM : Mem w0 W L)
    (h : ∀ b W', Mem w0 W' (.blk b cs ty :: L) → wpList P ops Q rest (a.put dst (.pointer (some ⟨b, 0, none⟩))) W') :
    wpList P ops Q (Oper.mk dst (.box ty x) tt ps af none :: rest) a W := by
  refine wpList_plain rfl fun K hK => ?_
  have h1 := h W.heap.size (W.alloc (.cells cs ty)) (HM.new cs ty)
  unfold Oper.wp execOp
  simp only [Instr.box, Sem.run_bind, Sem.run_pure, Result.andThen_ok, newVar, newRow, run_newObj, hx, hcs]
  exact hK _ _ h1

/-- A slice literal: its row is a block of its own. -/
theorem wl_buildSlice (t : TypeId) (len : Nat) (parts : Array (Nat × Operand)) (e : TypeId) (size : Nat) (z : Value) (cs : Array Value) (ht : P.underlying t = some (.slice e)) (hs : ∀ w, (sizeOf e).run P w = .ok size w)
    (hz : ∀ w, (zeroValue e).run P w = .ok z w) (hlen : 0 < len * size ∧ len * size ≤ 2 ^ 24)
    (hf : Instr.fill (fun i => some (i * size, size)) ((Array.range (len * size)).map (z.cells[· % z.cells.size]!)) (parts.map fun (i, x) => (i, a.eval x)).toList = some cs) (HM : Mem w0 W L)
    (h : ∀ b W', Mem w0 W' (.blk b cs e :: L) → wpList P ops Q rest (a.put dst (.slice (some ⟨b, 0, none⟩) len len)) W') :
    wpList P ops Q (Oper.mk dst (.buildSlice t len parts) tt ps af none :: rest) a W := by
  refine wpList_plain rfl fun K hK => ?_
  have h1 := h W.heap.size (W.alloc (.cells cs e)) (HM.new cs e)
  unfold Oper.wp execOp
  simp only [Instr.buildSlice, Sem.run_bind, Sem.run_pure, Result.andThen_ok, run_underlying ht, hs, if_neg (show ¬ len * size > 2 ^ 24 by omega), if_neg (show ¬ len * size = 0 by omega), hz, hf, newRow, run_newObj]
  exact hK _ _ h1

/-! ### Loads -/
theorem run_isAgg {ty : TypeId} {d : TypeDesc} (hu : P.underlying ty = some d) (w : World) : (isAgg ty).run P w = .ok d.isRow w := by
  unfold isAgg
  rw [Sem.run_bind, run_underlying hu w]
  cases d <;> rfl

theorem run_loadVar_cell {ty : TypeId} {d : TypeDesc} (hu : P.underlying ty = some d) (hd : d.isRow = false) {w : World} {ad : Addr} {v : Value} (hc : w.cell? ad = some v) : (loadVar ty ad).run P w = .ok v w := by
  simp [loadVar, Sem.run_bind, run_isAgg hu w, hd, hc]

theorem wl_load_at (ty : TypeId) (x : Operand) (p : Value) (cs : List Value) (d : TypeDesc) (hx : a.eval x = p) (hp : At W p cs) (hu : P.underlying ty = some d) (hd : d.isRow = true) (hi : (P.info? ty).map (·.size) = some cs.length)
    (h : wpList P ops Q rest (a.put dst (.agg cs.toArray)) W) : wpList P ops Q (Oper.mk dst (.load ty x) tt ps af none :: rest) a W := by
  obtain ⟨b, o, rfl, hr⟩ := hp
  exact wpList_load_mid rfl ty x rfl b o hx cs d hr hu hd hi h

theorem wl_load_at1 (ty : TypeId) (x : Operand) (p : Value) (v : Value) (d : TypeDesc) (hx : a.eval x = p) (hp : At W p [v]) (hu : P.underlying ty = some d) (hd : d.isRow = false)
    (h : wpList P ops Q rest (a.put dst v) W) : wpList P ops Q (Oper.mk dst (.load ty x) tt ps af none :: rest) a W := by
  obtain ⟨b, o, rfl, hr⟩ := hp
  have hc : W.cell? ⟨b, o, none⟩ = some v := by simpa using hr 0 v rfl
  refine wpList_plain rfl fun K hK => ?_
  unfold Oper.wp execOp
  simp only [hx, Instr.loadAt, Instr.sureAddr, Sem.run_bind, Sem.run_pure, Result.andThen_ok, run_loadVar_cell hu hd hc]
  exact hK _ _ h

/-- The whole of an own block, by value. -/
theorem wl_load_blk (ty : TypeId) (x : Operand) (b : Nat) (cs : Array Value) (t : TypeId) (d : TypeDesc) (hx : a.eval x = .pointer (some ⟨b, 0, none⟩)) (HM : Mem w0 W L) (hk : It.blk b cs t ∈ L)
    (hu : P.underlying ty = some d) (hd : d.isRow = true) (hi : (P.info? ty).map (·.size) = some cs.size)
    (h : wpList P ops Q rest (a.put dst (.agg cs)) W) : wpList P ops Q (Oper.mk dst (.load ty x) tt ps af none :: rest) a W :=
  wpList_load_row rfl ty x rfl b hx t cs (0, 0) d (HM.blk hk) hu (by cases d <;> first | rfl | (simp [TypeDesc.isRow] at hd)) hi h

theorem wl_load_heap (ty : TypeId) (x : Operand) (b : Nat) (cs : Array Value) (t : TypeId) (d : TypeDesc) (hx : a.eval x = .pointer (some ⟨b, 0, none⟩)) (hk : W.heap[b]? = some (.cells cs t (0, 0)))
    (hu : P.underlying ty = some d) (hd : d.isRow = true) (hi : (P.info? ty).map (·.size) = some cs.size)
    (h : wpList P ops Q rest (a.put dst (.agg cs)) W) : wpList P ops Q (Oper.mk dst (.load ty x) tt ps af none :: rest) a W :=
  wpList_load_row rfl ty x rfl b hx t cs (0, 0) d hk hu (by cases d <;> first | rfl | (simp [TypeDesc.isRow] at hd)) hi h
theorem wl_load_heap1 (ty : TypeId) (x : Operand) (b : Nat) (v : Value) (t : TypeId) (d : TypeDesc) (hx : a.eval x = .pointer (some ⟨b, 0, none⟩)) (hk : W.heap[b]? = some (.cells #[v] t (0, 0)))
    (hu : P.underlying ty = some d) (hd : d.isRow = false)
    (h : wpList P ops Q rest (a.put dst v) W) : wpList P ops Q (Oper.mk dst (.load ty x) tt ps af none :: rest) a W :=
  wl_load_at1 ty x (.pointer (some ⟨b, 0, none⟩)) v d hx ⟨b, 0, rfl, fun j u hu' => by
    have := cell_of_row W b j #[v] t (0, 0) hk
    rw [Nat.zero_add, this]; simpa using hu'⟩ hu hd h

/-- One cell of an own block. -/
theorem wl_load_cell (ty : TypeId) (x : Operand) (b o : Nat) (cs : Array Value) (t : TypeId) (v : Value) (d : TypeDesc) (hx : a.eval x = .pointer (some ⟨b, o, none⟩)) (HM : Mem w0 W L) (hk : It.blk b cs t ∈ L)
    (hv : cs[o]? = some v) (hu : P.underlying ty = some d) (hd : d.isRow = false)
    (h : wpList P ops Q rest (a.put dst v) W) : wpList P ops Q (Oper.mk dst (.load ty x) tt ps af none :: rest) a W :=
  wl_load_at1 ty x _ v d hx ⟨b, o, rfl, fun j u hu' => by
    cases j with
    | zero => simp only [List.getElem?_cons_zero, Option.some.injEq] at hu'; subst hu'; rw [cell_of_row W b _ cs t _ (HM.blk hk)]; exact hv
    | succ j => simp at hu'⟩ hu hd h

/-- A part of an own block, by value. -/
theorem wl_load_sub (ty : TypeId) (x : Operand) (b o n : Nat) (cs cs' : Array Value) (t : TypeId) (d : TypeDesc) (hx : a.eval x = .pointer (some ⟨b, o, none⟩)) (HM : Mem w0 W L) (hk : It.blk b cs t ∈ L)
    (hu : P.underlying ty = some d) (hd : d.isRow = true) (hi : (P.info? ty).map (·.size) = some n) (hc : cs.extract o (o + n) = cs') (hn : cs'.size = n)
    (h : wpList P ops Q rest (a.put dst (.agg cs')) W) : wpList P ops Q (Oper.mk dst (.load ty x) tt ps af none :: rest) a W := by
  have hr := World.rangeAt_of_block (HM.blk hk) o n
  rw [hc] at hr
  refine wl_load_at ty x _ cs'.toList d hx ⟨b, o, rfl, hr⟩ hu hd (by rw [hi]; simp [hn]) ?_
  simpa using h

/-! ### Stores -/
theorem wl_store_blk (ty : TypeId) (x y : Operand) (b : Nat) (cs cs' : Array Value) (t : TypeId) {L' : List It} (hx : a.eval x = .pointer (some ⟨b, 0, none⟩)) (hy : a.eval y = .agg cs') (HM : Mem w0 W L) (hk : Repl (.blk b cs t) (.blk b cs' t) L L')
    (hi : (P.info? ty).map (·.size) = some cs'.size) (hsz : cs.size = cs'.size) (h1 : cs'.all (·.oneCell') = true)
    (h : ∀ W', Mem w0 W' L' → wpList P ops Q rest (a.put dst undef) W') : wpList P ops Q (Oper.mk dst (.store ty x y) tt ps af none :: rest) a W :=
  wpList_store_row rfl ty x y rfl b cs' hx hy t cs (HM.blk hk.mem) hi hsz h1 (h _ (HM.put hk))

theorem setCell_eq_setRow' (W : World) (b o : Nat) (cs : Array Value) (t : TypeId) (v : Value) (h : W.heap[b]? = some (.cells cs t (0, 0))) : W.setCell ⟨b, o, none⟩ v = W.setRow b (cs.setIfInBounds o v) :=
  setCell_eq_setRow W b o cs t (0, 0) v h

/-- One cell of an own block. -/
theorem wl_store_cell (ty : TypeId) (x y : Operand) (b o : Nat) (cs cs' : Array Value) (t : TypeId) (v : Value) {L' : List It} (hx : a.eval x = .pointer (some ⟨b, o, none⟩)) (hy : a.eval y = v) (HM : Mem w0 W L) (hk : Repl (.blk b cs t) (.blk b cs' t) L L')
    (hi : (P.info? ty).map (·.size) = some 1) (h1 : v.oneCell' = true) (ho : o < cs.size) (hcs : cs.setIfInBounds o v = cs')
    (h : ∀ W', Mem w0 W' L' → wpList P ops Q rest (a.put dst undef) W') : wpList P ops Q (Oper.mk dst (.store ty x y) tt ps af none :: rest) a W := by
  subst hcs
  have hb := HM.blk hk.mem
  have hc : W.cell? ⟨b, o, none⟩ = some cs[o] := by rw [cell_of_row W b _ cs t _ hb]; simp [ho]
  have hf : W.frozen? ⟨b, o, none⟩ = false := frozen_of_row W b o cs t hb
  have hcell : v.cells = #[v] := by cases v <;> first | rfl | simp [Value.oneCell'] at h1
  refine wpList_plain rfl fun K hK => ?_
  have h2 := h _ (HM.put hk)
  rw [← setCell_eq_setRow' W b o cs t v hb] at h2
  cases hq : P.info? ty with
  | none => simp [hq] at hi
  | some i =>
    have hs : i.size = 1 := by simpa [hq] using hi
    have hrun := run_storeCells_cells (P := P) b o [v] 0 W (fun j hj => by simp at hj; subst hj; simp [hc]) (fun j hj => by simp at hj; subst hj; simpa using hf) (by simpa using h1)
    have hadd : (⟨b, o, none⟩ : Addr).add 0 = ⟨b, o, none⟩ := rfl
    simp only [World.setCells] at hrun
    unfold Oper.wp execOp
    simp only [hx, hy, Instr.storeAt, Instr.sureAddr, Sem.run_bind, Sem.run_pure, Result.andThen_ok, storeVar, sizeOf, typeInfo, hq, hcell, hs]
    simp [hq, hs, hrun]
    exact hK _ _ h2

/-! ### Slices that are read -/
theorem wl_len {α : Type} {enc : α → List Value} {size : Nat} {w1 : World} (x : Operand) (v : Value) (l : List α) (t e : TypeId) (ht : P.underlying t = some (.slice e)) (hx : a.eval x = v) (hR : RdL enc size w1 v l)
    (h : wpList P ops Q rest (a.put dst (.int .i64 l.length)) W) : wpList P ops Q (Oper.mk dst (.call { callee := .builtin .len, args := #[x], argTypes := #[t] }) tt ps af none :: rest) a W := by
  obtain ⟨A, c, rfl, _⟩ := hR
  refine wpList_plain rfl fun K hK => ?_
  unfold Oper.wp execOp
  simp only [resolve, invoke, builtin, Sem.run_bind, Sem.run_pure, Result.andThen_ok, List.map_toArray, List.map_cons, List.map_nil, hx]
  simp [Builtin.len_, Builtin.lenOf, goInt, run_underlying ht]
  exact hK _ _ h

theorem wl_index {α : Type} {enc : α → List Value} {size : Nat} (t e : TypeId) (x i : Operand) (v : Value) (l : List α) (ki : IntKind) (n : Int) (u : α) (he : ∀ x, (enc x).length = size) (ht : P.underlying t = some (.slice e)) (hs : (P.info? e).map (·.size) = some size)
    (hx : a.eval x = v) (hi : a.eval i = .int ki n) (hR : RdL enc size W v l) (hn : 0 ≤ n) (hu : l[n.toNat]? = some u)
    (h : ∀ p, At W p (enc u) → wpList P ops Q rest (a.put dst p) W) : wpList P ops Q (Oper.mk dst (.indexAddr t x i) tt ps af none :: rest) a W := by
  obtain ⟨b, o, c, rfl, hr⟩ := RdL.elem he hR n.toNat u hu
  have hlt : n.toNat < l.length := (List.getElem?_eq_some_iff.1 hu).1
  refine wpList_plain rfl fun K hK => ?_
  have h1 := h (.pointer (some ⟨b, o + n.toNat * size, none⟩)) ⟨b, _, rfl, hr⟩
  cases hq : P.info? e with
  | none => simp [hq] at hs
  | some ie =>
    have hsz : ie.size = size := by simpa [hq] using hs
    unfold Oper.wp execOp
    simp only [Instr.indexAt, hx, hi, Sem.run_bind, Sem.run_pure, Result.andThen_ok, asIntOf, run_underlying ht, Bool.and_false, sizeOf, typeInfo, hq]
    have hcond : 0 ≤ n ∧ n < (l.length : Int) := ⟨hn, by omega⟩
    simp [hcond, hq, hsz, Addr.add_mid]
    exact hK _ _ h1

/-- 'x[lo:hi]', 'x[lo:]', 'x[:hi]' of a slice that is read. -/
theorem RdL.cut {α : Type} {enc : α → List Value} {size : Nat} (he : ∀ x, (enc x).length = size) {w : World} {A : Option Addr} {c : Nat} {l : List α} (h : RdL enc size w (.slice A l.length c) l) (i j : Nat) (hij : i ≤ j) (hj : j ≤ l.length) :
    RdL enc size w (.slice (if c = i then A else A.map (·.add (i * size))) (j - i) (c - i)) ((l.take j).drop i) := by
  obtain ⟨A', c', h1, h2, h3, h4⟩ := h
  injection h1 with hA _ hc
  subst hA; subst hc
  have hlen : ((l.take j).drop i).length = j - i := by rw [List.length_drop, List.length_take, Nat.min_eq_left hj]
  refine ⟨_, _, by rw [hlen], by rw [hlen]; omega, by omega, fun hne => ?_⟩
  have hpos : i < j := by
    rcases Nat.lt_or_ge i j with h | h
    · exact h
    · exact absurd (List.eq_nil_of_length_eq_zero (by omega)) hne
  obtain ⟨b, o, rfl, hr⟩ := h4 (fun e => by simp [e] at hj; omega)
  rw [if_neg (by omega)]
  refine ⟨b, o + i * size, by simp [Addr.add_mid], ?_⟩
  rw [flatMap_drop he, flatMap_take he]
  exact rangeAt_drop (rangeAt_take hr _) _

theorem wl_slice_lo {α : Type} {enc : α → List Value} {size : Nat} {w1 : World} (t e : TypeId) (x lo : Operand) (v : Value) (l : List α) (k1 : IntKind) (i : Int) (he : ∀ x, (enc x).length = size) (ht : P.underlying t = some (.slice e)) (hs : (P.info? e).map (·.size) = some size)
    (hx : a.eval x = v) (hlo : a.eval lo = .int k1 i) (hR : RdL enc size w1 v l) (hi0 : 0 ≤ i) (hi : i ≤ l.length)
    (h : ∀ v', RdL enc size w1 v' (l.drop i.toNat) → wpList P ops Q rest (a.put dst v') W) : wpList P ops Q (Oper.mk dst (.slice t x (some lo) none none) tt ps af none :: rest) a W := by
  have hR0 := hR
  obtain ⟨A, c, rfl, hc, hm, _⟩ := hR
  have hcut := RdL.cut he hR0 i.toNat l.length (by omega) (Nat.le_refl _)
  rw [List.take_length] at hcut
  have h1 := h _ hcut
  refine wpList_plain rfl fun K hK => ?_
  cases hq : P.info? e with
  | none => simp [hq] at hs
  | some ie =>
    have hsz : ie.size = size := by simpa [hq] using hs
    unfold Oper.wp execOp
    simp only [Instr.sliceAt, Instr.slice, Instr.sliceBounds, Instr.sliceBound, hx, hlo, Option.map_some, Option.map_none, Sem.run_bind, Sem.run_pure, Result.andThen_ok, asIntOf, run_underlying ht, sizeOf, typeInfo, hq]
    have hcond : 0 ≤ i ∧ i ≤ (l.length : Int) := ⟨hi0, hi⟩
    simp [hcond, hq, hsz]
    exact hK _ _ h1

theorem wl_slice_hi {α : Type} {enc : α → List Value} {size : Nat} {w1 : World} (t e : TypeId) (x hi : Operand) (v : Value) (l : List α) (k1 : IntKind) (j : Int) (he : ∀ x, (enc x).length = size) (ht : P.underlying t = some (.slice e)) (hs : (P.info? e).map (·.size) = some size)
    (hx : a.eval x = v) (hhi : a.eval hi = .int k1 j) (hR : RdL enc size w1 v l) (hj0 : 0 ≤ j) (hj : j ≤ l.length)
    (h : ∀ v', RdL enc size w1 v' (l.take j.toNat) → wpList P ops Q rest (a.put dst v') W) : wpList P ops Q (Oper.mk dst (.slice t x none (some hi) none) tt ps af none :: rest) a W := by
  have hR0 := hR
  obtain ⟨A, c, rfl, hc, hm, _⟩ := hR
  have hcut := RdL.cut he hR0 0 j.toNat (by omega) (by omega)
  rw [List.drop_zero] at hcut
  have hv : (Value.slice (if c = 0 then A else Option.map (fun x => x.add (0 * size)) A) (j.toNat - 0) (c - 0)) = .slice A j.toNat c := by
    have : Option.map (fun x : Addr => x.add (0 * size)) A = A := by cases A <;> simp [Addr.add]
    rw [this]; simp
  rw [hv] at hcut
  have h1 := h _ hcut
  refine wpList_plain rfl fun K hK => ?_
  cases hq : P.info? e with
  | none => simp [hq] at hs
  | some ie =>
    have hsz : ie.size = size := by simpa [hq] using hs
    unfold Oper.wp execOp
    simp only [Instr.sliceAt, Instr.slice, Instr.sliceBounds, Instr.sliceBound, hx, hhi, Option.map_some, Option.map_none, Sem.run_bind, Sem.run_pure, Result.andThen_ok, asIntOf, run_underlying ht, sizeOf, typeInfo, hq]
    have hcond : 0 ≤ j ∧ j ≤ (c : Int) := ⟨hj0, by omega⟩
    have hA : Option.map (fun x : Addr => x.add 0) A = A := by cases A <;> simp [Addr.add]
    simp [hcond, hq, hsz, hA]
    exact hK _ _ h1
end
end Go.Proofs.Ythdekionepfmdaa
