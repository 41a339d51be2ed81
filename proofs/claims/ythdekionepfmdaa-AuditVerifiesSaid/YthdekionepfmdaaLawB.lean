/- More laws of the walk over 'Mem': append, make, copy. Plain theorems; nothing of the program is named. -/
import Derived.Test.YthdekionepfmdaaLaw
import Derived.Maps.AppendAt
import Derived.Lib.AppendZeros
set_option linter.unusedVariables false
set_option linter.unusedSimpArgs false
namespace Go.Proofs.Ythdekionepfmdaa
open Go.RowKit

theorem Mem.nilrow {w0 W : World} {L : List It} (h : Mem w0 W L) (e : TypeId) (size : Nat) : Mem w0 W (.row (.slice none 0 0) e size 0 [] :: L) :=
  ⟨h.below, by intro x hx; rcases List.mem_cons.1 hx with rfl | hx; exact World.ownsRow_nil W _ e size; exact h.ok x hx,
   List.pairwise_cons.2 ⟨fun y _ b hb => by simp [It.at, Value.ownBlock] at hb, h.apart⟩⟩

/-- A block is a row. -/
theorem Mem.toRow {w0 W : World} {L L' : List It} (h : Mem w0 W L) {b : Nat} {cs : Array Value} {t : TypeId} (size n : Nat) (hk : Repl (.blk b cs t) (.row (.slice (some ⟨b, 0, none⟩) n n) t size n cs.toList) L L') (hn : cs.size = n * size) (hm : n ≤ maxLen) :
    Mem w0 W L' := by
  have hb := h.blk hk.mem
  have h0 := (h.ok _ hk.mem).1
  refine h.turn hk ⟨rfl, rfl, rfl, Nat.le_refl _, fun _ _ _ => rfl⟩ ?_ (fun b' hb' => .inl (by simpa [It.at, Value.ownBlock] using hb'))
  exact ⟨by simpa using hn, .inr ⟨b, n, cs, rfl, h0, hb, Nat.le_refl _, hm, hn, by rw [List.take_of_length_le (by simp [hn])]⟩⟩

theorem RdL.of_blk {α : Type} {enc : α → List Value} {size : Nat} {W : World} {b : Nat} {cs : Array Value} {t : TypeId} (hb : W.heap[b]? = some (.cells cs t (0, 0))) (l : List α) (n : Nat) (hn : l.length = n) (hl : cs.toList = l.flatMap enc) (hm : n ≤ maxLen) :
    RdL enc size W (.slice (some ⟨b, 0, none⟩) n n) l :=
  ⟨some ⟨b, 0, none⟩, n, by rw [hn], by omega, hm, fun _ => ⟨b, 0, rfl, fun j v hv => by rw [cell_of_row W b _ cs t _ hb, ← Array.getElem?_toList, hl]; simpa using hv⟩⟩

theorem Mem.rdRow {α : Type} {enc : α → List Value} {size : Nat} (hs : 0 < size) (he : ∀ x, (enc x).length = size) {w0 W : World} {L : List It} (h : Mem w0 W L) {v : Value} {e : TypeId} {n : Nat} {l : List α} (hk : It.row v e size n (l.flatMap enc) ∈ L) : RdL enc size W v l :=
  (RdL.own hs he (h.row hk)).2

section
variable {P : Program} {ops : Array Oper} {rest : List Oper} {a : Act} {Q : Exit → Act → World → Prop} {w0 W : World} {L : List It} {dst : Option Tmp} {tt : TypeId} {ps : String} {af : Array Edge}

/-- 'append(out, x...)', out the call's own (nil let in), x a slice that is read. -/
theorem wl_append {α : Type} {enc : α → List Value} {f : It → List It} (s x : Operand) (t e : TypeId) (z : Value) (size bytes : Nat) (v xv : Value) (n : Nat) (xs : List Value) (l : List α)
    (ht : P.underlying t = some (.slice e)) (hinfo : (P.info? e).map (fun i => (i.zero, i.size, i.bytes)) = some (some z, size, bytes)) (hzs : z.cells.size = size) (hsz : 0 < size) (he : ∀ x, (enc x).length = size) (h1 : ∀ x, ∀ u ∈ enc x, u.oneCell' = true)
    (HM : Mem w0 W L) (hk : Spot (.row v e size n xs) L f) (hR : RdL enc size W xv l) (hs : a.eval s = v) (hx : a.eval x = xv) (hb0 : 0 < bytes) (hb : (n + l.length) * bytes ≤ 140737488355328)
    (h : ∀ v' W', Mem w0 W' (f (.row v' e size (n + l.length) (xs ++ l.flatMap enc))) → wpList P ops Q rest (a.put dst v') W') :
    wpList P ops Q (Oper.mk dst (.call { callee := .builtin .append, args := #[s, x], argTypes := #[t, t] }) tt ps af none :: rest) a W := by
  obtain ⟨i0, hi, hz0, hz1, hz2⟩ := info_parts hinfo
  have hown := HM.row hk.mem
  have hlen : n + l.length ≤ 140737488355328 := Nat.le_trans (Nat.le_mul_of_pos_right _ hb0) hb
  obtain ⟨A, c, rfl, hc, hcm, hr⟩ := hR
  refine wpList_plain rfl fun K hK => ?_
  have key : ∃ v' W', (Builtin.append_ #[t, t] tt #[v, .slice A l.length c]).run P W = .ok v' W' ∧ Mem w0 W' (f (.row v' e size (n + l.length) (xs ++ l.flatMap enc))) := by
    rcases Nat.eq_zero_or_pos l.length with h0 | h0
    · have hl : l = [] := List.eq_nil_of_length_eq_zero h0
      subst hl
      refine ⟨v, W, ?_, ?_⟩
      · rcases hown.2 with ⟨rfl, rfl⟩ | ⟨g, cap, cur, rfl, _, _, hnc, _⟩
        · cases A <;> simp [Builtin.append_, run_underlying ht, sizeOf, typeInfo, hi, Builtin.lenOf, Builtin.firstCells, loadCells, loadCellsFrom]
        · cases A <;> simp [Builtin.append_, run_underlying ht, sizeOf, typeInfo, hi, Builtin.lenOf, Builtin.firstCells, hnc, storeCells, loadCells, loadCellsFrom]
      · have hset : f (.row v e size (n + ([] : List α).length) (xs ++ ([] : List α).flatMap enc)) = L := by
          simp only [List.length_nil, Nat.add_zero, List.flatMap_nil, List.append_nil]
          exact hk.self
        rw [hset]; exact HM
    · obtain ⟨b, o, rfl, hra⟩ := hr (fun e => by simp [e] at h0)
      obtain ⟨v', W', hrun, h2, h3, _, h5⟩ := run_append_own_at (P := P) W w0.heap.size t tt e i0 z size bytes ht hi hz0 hz1 hz2 hzs hsz v n xs hown ⟨b, o, none⟩ l.length c (l.flatMap enc) (flatMap_length he l)
        (fun j u hu => by rw [Addr.add_mid]; exact hra j u hu) (fun u hu => by obtain ⟨x, _, hx⟩ := List.mem_flatMap.1 hu; exact h1 x u hx) (by simp only [maxLen]; omega) hb HM.size
      refine ⟨v', W', hrun, HM.turn (hk.repl _) h3 h2 (fun b' hb' => ?_)⟩
      simp only [It.at] at hb' ⊢
      rcases h5 with h5 | h5
      · exact .inl (by rw [← h5]; exact hb')
      · exact .inr (by rw [h5] at hb'; injection hb' with hb'; omega)
  obtain ⟨v', W', hrun, hM⟩ := key
  have h1 := h v' W' hM
  unfold Oper.wp execOp
  simp only [resolve, invoke, builtin, Sem.run_bind, Sem.run_pure, Result.andThen_ok, List.map_toArray, List.map_cons, List.map_nil, hs, hx, hrun]
  exact hK _ _ h1

/-- 'make([]T, n)': a block of zeros. -/
theorem wl_make (t e : TypeId) (l c : Operand) (z : Value) (size bytes : Nat) (kl kc : IntKind) (N : Int) (ht : P.underlying t = some (.slice e)) (hinfo : (P.info? e).map (fun i => (i.zero, i.size, i.bytes)) = some (some z, size, bytes))
    (hl : a.eval l = .int kl N) (hc : a.eval c = .int kc N) (hN : 0 ≤ N) (hb0 : 0 < bytes) (hb : bytes * N.toNat ≤ 281474976710656) (HM : Mem w0 W L)
    (h : ∀ b W', Mem w0 W' (.blk b (madeCells z.cells (N.toNat * size)) e :: L) → wpList P ops Q rest (a.put dst (.slice (some ⟨b, 0, none⟩) N.toNat N.toNat)) W') :
    wpList P ops Q (Oper.mk dst (.makeSlice t l c) tt ps af none :: rest) a W := by
  obtain ⟨i0, hi, hz0, hz1, hz2⟩ := info_parts hinfo
  obtain ⟨n, rfl⟩ := Int.eq_ofNat_of_zero_le hN
  simp only [Int.toNat_natCast] at hb h
  have hn : n ≤ 281474976710656 := Nat.le_trans (Nat.le_mul_of_pos_left _ hb0) hb
  have hb' : (i0.bytes : Int) * (n : Int) ≤ 281474976710656 := by
    have h : ((i0.bytes * n : Nat) : Int) ≤ 281474976710656 := by rw [hz2]; omega
    rwa [Int.natCast_mul] at h
  have hrun := run_make (P := P) W t e i0 z ht hi hz0 kl kc n n (by omega) (Int.le_refl _) hb' (by omega)
  simp only [Int.toNat_natCast, hz1] at hrun
  refine wpList_plain rfl fun K hK => ?_
  have h1 := h W.heap.size (W.alloc (.cells (madeCells z.cells (n * size)) e)) (HM.new _ _)
  unfold Oper.wp execOp
  simp only [hl, hc, hrun, Sem.run_bind, Sem.run_pure, Result.andThen_ok]
  exact hK _ _ h1

/-- 'append(nil, make([]T, n)...)' as the translation spells slices.Grow's. -/
theorem wl_append_zeros (s x : Operand) (t tn e : TypeId) (z : Value) (size bytes : Nat) (kn k0 : IntKind) (N : Int) (ht : P.underlying t = some (.slice e)) (htn : P.underlying tn = some (.int kn))
    (hinfo : (P.info? e).map (fun i => (i.zero, i.size, i.bytes)) = some (some z, size, bytes)) (hzs : z.cells.size = size) (hsz : 0 < size)
    (hs : a.eval s = .slice none 0 0) (hx : a.eval x = .int k0 N) (hN : 0 < N) (hb0 : 0 < bytes) (hb : N.toNat * bytes ≤ 281474976710656) (HM : Mem w0 W L)
    (h : ∀ b cap xs W', N.toNat ≤ cap → cap ≤ maxLen → Mem w0 W' (.row (.slice (some ⟨b, 0, none⟩) N.toNat cap) e size N.toNat xs :: L) → wpList P ops Q rest (a.put dst (.slice (some ⟨b, 0, none⟩) N.toNat cap)) W') :
    wpList P ops Q (Oper.mk dst (.call { callee := .builtin .append, args := #[s, x], argTypes := #[t, tn] }) tt ps af none :: rest) a W := by
  obtain ⟨i0, hi, hz0, hz1, hz2⟩ := info_parts hinfo
  obtain ⟨n, rfl⟩ := Int.eq_ofNat_of_zero_le (Int.le_of_lt hN)
  simp only [Int.toNat_natCast] at hb h
  have hn : n ≤ 281474976710656 := Nat.le_trans (Nat.le_mul_of_pos_right _ hb0) hb
  have hrun := Lib.run_append_nil_zeros (P := P) W t tn tt e i0 z k0 kn ht htn hi hz0 n (by omega) (by omega) (by omega) (by rw [hz2]; exact hb)
  have hcap := grownCap_ge W n 0 e
  have hcm : grownCap W n 0 e ≤ maxLen := grownCap_le_maxLen W n 0 e (by simp only [maxLen]; omega)
  have hM : Mem w0 (W.drew.alloc (.cells (Builtin.zeroCells z.cells n ++ Builtin.zeroCells z.cells (grownCap W n 0 e - n)) e))
      (.row (.slice (some ⟨W.heap.size, 0, none⟩) n (grownCap W n 0 e)) e size n (Builtin.zeroCells z.cells n).toList :: L) := by
    have h1 := HM.drew.new (Builtin.zeroCells z.cells n ++ Builtin.zeroCells z.cells (grownCap W n 0 e - n)) e
    have hlen : (Builtin.zeroCells z.cells n).size = n * size := by rw [size_zeroCells, hzs]
    have h2 := h1.turn (x' := .row (.slice (some ⟨W.heap.size, 0, none⟩) n (grownCap W n 0 e)) e size n (Builtin.zeroCells z.cells n).toList) .here ⟨rfl, rfl, rfl, Nat.le_refl _, fun _ _ _ => rfl⟩
      ⟨by simpa using hlen, .inr ⟨W.heap.size, _, _, rfl, HM.size, heap_alloc_new W.drew _, hcap, hcm, by
        simp only [Array.size_append, size_zeroCells, hzs, ← Nat.add_mul]; congr 1; omega, by
        simp only [Array.toList_append]; rw [List.take_append_of_le_length (by simp [hlen]), List.take_of_length_le (by simp [hlen])]⟩⟩ (fun b hb => .inl (by simpa [It.at, Value.ownBlock] using hb))
    simpa using h2
  have h1 := h _ _ _ _ hcap hcm hM
  refine wpList_plain rfl fun K hK => ?_
  unfold Oper.wp execOp
  simp only [resolve, invoke, builtin, Sem.run_bind, Sem.run_pure, Result.andThen_ok, List.map_toArray, List.map_cons, List.map_nil, hs, hx, hrun]
  exact hK _ _ h1

/-- 'out[:j]', out a row of the call's own. -/
theorem wl_row_hi {f : It → List It} (t e : TypeId) (x hi : Operand) (b n cap size : Nat) (xs : List Value) (k1 : IntKind) (j : Int) (ht : P.underlying t = some (.slice e)) (hs : (P.info? e).map (·.size) = some size)
    (hx : a.eval x = .slice (some ⟨b, 0, none⟩) n cap) (hhi : a.eval hi = .int k1 j) (HM : Mem w0 W L) (hk : Spot (.row (.slice (some ⟨b, 0, none⟩) n cap) e size n xs) L f) (hj0 : 0 ≤ j) (hj : j ≤ n)
    (h : Mem w0 W (f (.row (.slice (some ⟨b, 0, none⟩) j.toNat cap) e size j.toNat (xs.take (j.toNat * size)))) → wpList P ops Q rest (a.put dst (.slice (some ⟨b, 0, none⟩) j.toNat cap)) W) :
    wpList P ops Q (Oper.mk dst (.slice t x none (some hi) none) tt ps af none :: rest) a W := by
  have hown := HM.row hk.mem
  have hM : Mem w0 W (f (.row (.slice (some ⟨b, 0, none⟩) j.toNat cap) e size j.toNat (xs.take (j.toNat * size)))) := by
    refine HM.turn (hk.repl _) ⟨rfl, rfl, rfl, Nat.le_refl _, fun _ _ _ => rfl⟩ ?_ (fun b hb => .inl (by simpa [It.at, Value.ownBlock] using hb))
    have hle : j.toNat * size ≤ n * size := Nat.mul_le_mul_right _ (by omega)
    refine ⟨by rw [List.length_take, hown.1]; omega, ?_⟩
    rcases hown.2 with ⟨hv, _⟩ | ⟨g, cap', cur, hv, hb, hh, hc, hcm, hcs, htake⟩
    · cases hv
    · injection hv with h1 h2 h3
      subst h3
      exact .inr ⟨g, cap, cur, by rw [h1], hb, hh, by omega, hcm, hcs, by rw [← htake, List.take_take, Nat.min_eq_left hle]⟩
  have h1 := h hM
  have hnc : n ≤ cap := by
    rcases hown.2 with ⟨hv, _⟩ | ⟨g, cap', cur, hv, hb, hh, hc, _⟩
    · cases hv
    · injection hv with h1 h2 h3
      omega
  refine wpList_plain rfl fun K hK => ?_
  cases hq : P.info? e with
  | none => simp [hq] at hs
  | some ie =>
    have hsz : ie.size = size := by simpa [hq] using hs
    unfold Oper.wp execOp
    simp only [Instr.sliceAt, Instr.slice, Instr.sliceBounds, Instr.sliceBound, hx, hhi, Option.map_some, Option.map_none, Sem.run_bind, Sem.run_pure, Result.andThen_ok, asIntOf, run_underlying ht, sizeOf, typeInfo, hq]
    have hcond : 0 ≤ j ∧ j ≤ (cap : Int) := ⟨hj0, by omega⟩
    simp [hcond, hq, hsz, Addr.add]
    exact hK _ _ h1

/-- 'copy(d, x)', d a block of the call's own from its head on, elements of one cell. -/
theorem wl_copy {α : Type} {enc : α → List Value} {f : It → List It} (d x : Operand) (dT sT e : TypeId) (b dl dc : Nat) (cs : Array Value) (t : TypeId) (xv : Value) (l : List α)
    (hu : P.underlying dT = some (.slice e)) (hsz : (P.info? e).map (·.size) = some 1) (he : ∀ x, (enc x).length = 1) (h1 : ∀ x, ∀ u ∈ enc x, u.oneCell' = true)
    (hd : a.eval d = .slice (some ⟨b, 0, none⟩) dl dc) (hx : a.eval x = xv) (HM : Mem w0 W L) (hk : Spot (.blk b cs t) L f) (hR : RdL enc 1 W xv l) (hdl : dl ≤ cs.size)
    (h : ∀ W', Mem w0 W' (f (.blk b (((l.take dl).flatMap enc) ++ cs.toList.drop (min l.length dl)).toArray t)) → wpList P ops Q rest (a.put dst (.int .i64 (min l.length dl : Nat))) W') :
    wpList P ops Q (Oper.mk dst (.call { callee := .builtin .copy, args := #[d, x], argTypes := #[dT, sT] }) tt ps af none :: rest) a W := by
  obtain ⟨A, c, rfl, hc, hcm, hr⟩ := hR
  have hlen : ((l.take dl).flatMap enc).length = min l.length dl := by rw [flatMap_length he, List.length_take, Nat.mul_one, Nat.min_comm]
  refine wpList_plain rfl fun K hK => ?_
  have key : ∃ W', (Builtin.copy_ #[dT, sT] tt #[.slice (some ⟨b, 0, none⟩) dl dc, .slice A l.length c]).run P W = .ok (.int .i64 (min l.length dl : Nat)) W' ∧
      Mem w0 W' (f (.blk b (((l.take dl).flatMap enc) ++ cs.toList.drop (min l.length dl)).toArray t)) := by
    rcases Nat.eq_zero_or_pos l.length with h0 | h0
    · have hl : l = [] := List.eq_nil_of_length_eq_zero h0
      subst hl
      refine ⟨W, ?_, ?_⟩
      · have hrun := run_copy_none (P := P) W dT sT tt e (some ⟨b, 0, none⟩) A dl dc 0 c hu hsz (Nat.zero_min _)
        simpa [goInt] using hrun
      · have hset : f (.blk b ((([] : List α).take dl).flatMap enc ++ cs.toList.drop (min ([] : List α).length dl)).toArray t) = L := by
          simp only [List.take_nil, List.flatMap_nil, List.length_nil, Nat.zero_min, List.drop_zero, List.nil_append, Array.toArray_toList]
          exact hk.self
        rw [hset]; exact HM
    · obtain ⟨b', o, rfl, hra⟩ := hr (fun e => by simp [e] at h0)
      have hrun := run_copy_row (P := P) W dT sT tt e b 0 dl dc ⟨b', o, none⟩ l.length c cs t ((l.take dl).flatMap enc) hu hsz (HM.blk hk.mem) (by rw [hlen])
        (fun j v hv => by rw [Addr.add_mid]; refine hra j v ?_; rw [flatMap_take he, List.getElem?_take] at hv; split at hv <;> first | exact hv | cases hv)
        (by rw [hlen]; omega) (fun u hu => by obtain ⟨x, _, hx⟩ := List.mem_flatMap.1 hu; exact h1 x u hx)
      refine ⟨_, by rw [hrun, hlen]; rfl, ?_⟩
      have hp := HM.put (cs' := (cs.toList.take 0 ++ (l.take dl).flatMap enc ++ cs.toList.drop (0 + ((l.take dl).flatMap enc).length)).toArray) (hk.repl _)
      simpa [hlen] using hp
  obtain ⟨W', hrun, hM⟩ := key
  have h1 := h W' hM
  unfold Oper.wp execOp
  simp only [resolve, invoke, builtin, Sem.run_bind, Sem.run_pure, Result.andThen_ok, List.map_toArray, List.map_cons, List.map_nil, hd, hx, hrun]
  exact hK _ _ h1
end
end Go.Proofs.Ythdekionepfmdaa
