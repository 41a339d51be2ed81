/- Lists of texts: a row of slices whose bytes lie in rows of their own; the program's texts of a list. -/
import Derived.Test.YthdekionepfmdaaGrc
set_option linter.unusedVariables false
set_option linter.unusedSimpArgs false
set_option maxRecDepth 8000
namespace Go.Proofs.Ythdekionepfmdaa
open Go.RowKit

/-- A text's row: the slice's value and its bytes. -/
def rowT (p : Value × List UInt8) : It := .row p.1 5 1 p.2.length (p.2.flatMap encB)
def valsT (us : List (Value × List UInt8)) : List Value := (us.map (·.1)).flatMap encV
/-- Each text's row is among R. -/
def Tx (us : List (Value × List UInt8)) (R : List It) : Prop := ∀ p ∈ us, rowT p ∈ R
theorem Tx.nil (R : List It) : Tx [] R := by intro p hp; cases hp
theorem Tx.mono {us : List (Value × List UInt8)} {R S : List It} (h : Tx us R) (hs : ∀ x ∈ R, x ∈ S) : Tx us S := fun p hp => hs _ (h p hp)
theorem Tx.app {us vs : List (Value × List UInt8)} {R : List It} (h : Tx us R) (h' : Tx vs R) : Tx (us ++ vs) R := fun p hp => by
  rcases List.mem_append.1 hp with hp | hp
  · exact h p hp
  · exact h' p hp
theorem Tx.one {p : Value × List UInt8} {R : List It} (h : rowT p ∈ R) : Tx [p] R := fun q hq => by rw [List.mem_singleton.1 hq]; exact h
theorem valsT_snoc (us : List (Value × List UInt8)) (p : Value) (x : List UInt8) : valsT us ++ [p].flatMap encV = valsT (us ++ [(p, x)]) := by simp [valsT, encV]
theorem valsT_app (us vs : List (Value × List UInt8)) : valsT us ++ (vs.map (·.1)).flatMap encV = valsT (us ++ vs) := by simp [valsT]
/-! Moving items about. -/
theorem Mem.rot1 {w0 W : World} {x y z : It} {L : List It} (h : Mem w0 W (x :: y :: z :: L)) : Mem w0 W (y :: z :: x :: L) :=
  h.perm ((List.Perm.swap y x (z :: L)).trans (List.Perm.cons y (List.Perm.swap z x L)))
theorem Mem.sink {w0 W : World} {x : It} {A B : List It} {z : It} (h : Mem w0 W (x :: (A ++ z :: B))) : Mem w0 W (x :: z :: (A ++ B)) :=
  h.perm (List.Perm.cons x List.perm_middle)
theorem Mem.sink2 {w0 W : World} {x y : It} {A B : List It} {z : It} (h : Mem w0 W (x :: y :: (A ++ z :: B))) : Mem w0 W (x :: y :: z :: (A ++ B)) :=
  h.perm (List.Perm.cons x (List.Perm.cons y List.perm_middle))
theorem Mem.fetch2 {w0 W : World} {p c d x y : It} {L : List It} (h : Mem w0 W (p :: c :: d :: x :: y :: L)) : Mem w0 W (x :: y :: p :: c :: d :: L) :=
  h.perm (List.perm_append_comm_assoc [p, c, d] [x, y] L)
theorem Mem.fetch3 {w0 W : World} {p c d e x y : It} {L : List It} (h : Mem w0 W (p :: c :: d :: e :: x :: y :: L)) : Mem w0 W (x :: y :: p :: c :: d :: e :: L) :=
  h.perm (List.perm_append_comm_assoc [p, c, d, e] [x, y] L)
theorem Mem.drop5 {w0 W : World} {x y p c d : It} {L : List It} (h : Mem w0 W (x :: y :: p :: c :: d :: L)) : Mem w0 W (x :: y :: p :: L) :=
  h.sub (List.Sublist.cons_cons _ (List.Sublist.cons_cons _ (List.Sublist.cons_cons _ (List.Sublist.cons _ (List.sublist_cons_self _ _)))))
theorem Mem.drop6 {w0 W : World} {x y p c d e : It} {L : List It} (h : Mem w0 W (x :: y :: p :: c :: d :: e :: L)) : Mem w0 W (x :: y :: p :: L) :=
  h.sub (List.Sublist.cons_cons _ (List.Sublist.cons_cons _ (List.Sublist.cons_cons _ (List.Sublist.cons _ (List.Sublist.cons _ (List.sublist_cons_self _ _))))))
theorem Mem.drop4 {w0 W : World} {x y p c : It} {L : List It} (h : Mem w0 W (x :: y :: p :: c :: L)) : Mem w0 W (x :: y :: p :: L) :=
  h.sub (List.Sublist.cons_cons _ (List.Sublist.cons_cons _ (List.Sublist.cons_cons _ (List.sublist_cons_self _ _))))
/-- Only what stands in a sublist is kept. -/
theorem Mem.drop3 {w0 W : World} {x y z : It} {L : List It} (h : Mem w0 W (x :: y :: z :: L)) : Mem w0 W (x :: y :: L) :=
  h.sub (List.Sublist.cons_cons _ (List.Sublist.cons_cons _ (List.sublist_cons_self _ _)))

theorem fill_val (p : Value) (hp : p.cells = #[p]) : Instr.fill (fun i => some (i * 1, 1)) ((Array.range (1 * 1)).map ((Value.slice none 0 0).cells[· % (Value.slice none 0 0).cells.size]!)) [(0, p)] = some #[p] := by
  have hz : (Array.range (1 * 1)).map ((Value.slice none 0 0).cells[· % (Value.slice none 0 0).cells.size]!) = #[.slice none 0 0] := by kernel_rfl
  rw [hz]
  simp [Instr.fill, hp]
section
variable {P : Program} {ops : Array Oper} {rest : List Oper} {a : Act} {Q : Exit → Act → World → Prop} {w0 W : World} {L : List It} {dst : Option Tmp} {tt : TypeId} {ps : String} {af : Array Edge}
theorem wl_slice1V (t e : TypeId) (x : Operand) (p : Value) (ht : P.underlying t = some (.slice e)) (hs : ∀ w, (sizeOf e).run P w = .ok 1 w) (hz : ∀ w, (zeroValue e).run P w = .ok (.slice none 0 0) w) (hp : p.cells = #[p])
    (hx : a.eval x = p) (HM : Mem w0 W L) (h : ∀ b W', Mem w0 W' (.blk b #[p] e :: L) → wpList P ops Q rest (a.put dst (.slice (some ⟨b, 0, none⟩) 1 1)) W') :
    wpList P ops Q (Oper.mk dst (.buildSlice t 1 #[(0, x)]) tt ps af none :: rest) a W :=
  wl_buildSlice (dst := dst) (cs := #[p]) t 1 #[(0, x)] e 1 (.slice none 0 0) ht hs hz (by decide) (by simp only [List.map_toArray, List.map_cons, List.map_nil, hx]; exact fill_val p hp) HM h
/-- 'append(out, x...)', out the call's own (nil let in), x a slice that is read. -/
theorem wl_appendM {α : Type} {enc : α → List Value} {f : It → List It} (s x : Operand) (t e : TypeId) (z : Value) (size bytes : Nat) (v xv : Value) (n : Nat) (xs : List Value) (l : List α)
    (ht : P.underlying t = some (.slice e)) (hinfo : (P.info? e).map (fun i => (i.zero, i.size, i.bytes)) = some (some z, size, bytes)) (hzs : z.cells.size = size) (hsz : 0 < size) (he : ∀ x, (enc x).length = size) (h1 : ∀ x ∈ l, ∀ u ∈ enc x, u.oneCell' = true)
    (HM : Mem w0 W L) (hk : Spot (.row v e size n xs) L f) (hR : RdL enc size W xv l) (hs : a.eval s = v) (hx : a.eval x = xv) (hb0 : 0 < bytes) (hb : (n + l.length) * bytes ≤ 140737488355328)
    (h : ∀ v' W', Mem w0 W' (f (.row v' e size (n + l.length) (xs ++ l.flatMap enc))) → wpList P ops Q rest (a.put dst v') W') :
    wpList P ops Q (Oper.mk dst (.call { callee := .builtin .append, args := #[s, x], argTypes := #[t, t] }) tt ps af none :: rest) a W := by
  obtain ⟨i0, hi, hz0, hz1, hz2⟩ := info_parts hinfo
  have hown := HM.row hk.mem
  have hlen : n + l.length ≤ 140737488355328 := Nat.le_trans (Nat.le_mul_of_pos_right _ hb0) hb
  obtain ⟨A, c, rfl, hc, hcm, hr⟩ := hR
  refine wpList_plain rfl fun K hK => ?_
  have key : ∃ v' W', (Builtin.append_ #[t, t] tt #[v, .slice A l.length c]).run P W = .ok v' W' ∧ Mem w0 W' (f (.row v' e size (n + l.length) (xs ++ l.flatMap enc))) := by
    rcases Nat.eq_zero_or_pos l.length with h0 | h0
    · have hl : l = [] := List.eq_nil_of_length_eq_zero h0
      subst hl
      refine ⟨v, W, ?_, ?_⟩
      · rcases hown.2 with ⟨rfl, rfl⟩ | ⟨g, cap, cur, rfl, _, _, hnc, _⟩
        · cases A <;> simp [Builtin.append_, run_underlying ht, sizeOf, typeInfo, hi, Builtin.lenOf, Builtin.firstCells, loadCells, loadCellsFrom]
        · cases A <;> simp [Builtin.append_, run_underlying ht, sizeOf, typeInfo, hi, Builtin.lenOf, Builtin.firstCells, hnc, storeCells, loadCells, loadCellsFrom]
      · have hset : f (.row v e size (n + ([] : List α).length) (xs ++ ([] : List α).flatMap enc)) = L := by
          simp only [List.length_nil, Nat.add_zero, List.flatMap_nil, List.append_nil]
          exact hk.self
        rw [hset]; exact HM
    · obtain ⟨b, o, rfl, hra⟩ := hr (fun e => by simp [e] at h0)
      obtain ⟨v', W', hrun, h2, h3, _, h5⟩ := run_append_own_at (P := P) W w0.heap.size t tt e i0 z size bytes ht hi hz0 hz1 hz2 hzs hsz v n xs hown ⟨b, o, none⟩ l.length c (l.flatMap enc) (flatMap_length he l)
        (fun j u hu => by rw [Addr.add_mid]; exact hra j u hu) (fun u hu => by obtain ⟨x, hxl, hx⟩ := List.mem_flatMap.1 hu; exact h1 x hxl u hx) (by simp only [maxLen]; omega) hb HM.size
      refine ⟨v', W', hrun, HM.turn (hk.repl _) h3 h2 (fun b' hb' => ?_)⟩
      simp only [It.at] at hb' ⊢
      rcases h5 with h5 | h5
      · exact .inl (by rw [← h5]; exact hb')
      · exact .inr (by rw [h5] at hb'; injection hb' with hb'; omega)
  obtain ⟨v', W', hrun, hM⟩ := key
  have h1 := h v' W' hM
  unfold Oper.wp execOp
  simp only [resolve, invoke, builtin, Sem.run_bind, Sem.run_pure, Result.andThen_ok, List.map_toArray, List.map_cons, List.map_nil, hs, hx, hrun]
  exact hK _ _ h1

end
theorem encV_one (p : Value) (h : p.oneCell' = true) : ∀ u ∈ encV p, u.oneCell' = true := by
  intro u hu; simp only [encV, List.mem_singleton] at hu; subst hu; exact h

theorem leafTextT (k : Key) (w : World) : Calls Try.prog 66 #[.agg (kc k)] w fun e w' => ∃ v, e = .returned v ∧ Mem w w' [rowT (v, textLeaf k)] :=
  (leafText_c k w).mono fun e w' ⟨v, h1, h2⟩ => ⟨v, h1, by simpa only [rowT, textLeaf_len] using h2⟩
theorem nodeTextT (a b : Key) (w : World) : Calls Try.prog 68 #[.agg (kc a), .agg (kc b)] w fun e w' => ∃ v, e = .returned v ∧ Mem w w' [rowT (v, textNode a b)] :=
  (nodeText_c a b w).mono fun e w' ⟨v, h1, h2⟩ => ⟨v, h1, by simpa only [rowT, textNode_len] using h2⟩
theorem rleafTextT (k : Key) (w : World) : Calls Try.prog 126 #[.agg (kc k)] w fun e w' => ∃ v, e = .returned v ∧ Mem w w' [rowT (v, textLeaf k)] :=
  (rleafText_c k w).mono fun e w' ⟨v, h1, h2⟩ => ⟨v, h1, by simpa only [rowT, textLeaf_len] using h2⟩
theorem rnodeTextT (a b : Key) (w : World) : Calls Try.prog 128 #[.agg (kc a), .agg (kc b)] w fun e w' => ∃ v, e = .returned v ∧ Mem w w' [rowT (v, textNode a b)] :=
  (rnodeText_c a b w).mono fun e w' ⟨v, h1, h2⟩ => ⟨v, h1, by simpa only [rowT, textNode_len] using h2⟩
theorem rd_text {w0 W : World} {L : List It} {p : Value} {x : List UInt8} (h : Mem w0 W L) (hk : rowT (p, x) ∈ L) : RdL encB 1 W p x := rd_row h hk rfl
theorem text_cells {w0 W : World} {L : List It} {p : Value} {x : List UInt8} (h : Mem w0 W L) (hk : rowT (p, x) ∈ L) : p.cells = #[p] := row_cells (h.row hk)
theorem text_one {w0 W : World} {L : List It} {p : Value} {x : List UInt8} (h : Mem w0 W L) (hk : rowT (p, x) ∈ L) : p.oneCell' = true := row_one (h.row hk)

section
attribute [local irreducible] rowT
set_option maxHeartbeats 800000 in
theorem take_c (w0 W : World) (b : Nat) (u p : Value) (us : List (Value × List UInt8)) (x : List UInt8) (L : List It) (HM : Mem w0 W (.blk b #[u] 119 :: .row u 24 1 us.length (valsT us) :: L))
    (hx : rowT (p, x) ∈ L) (hxl : x.length ≤ 16384) (hus : us.length ≤ 1000000) :
    Calls Try.prog 65 #[.pointer (some ⟨b, 0, none⟩), p] W fun e W' => ∃ u', e = .returned (.agg (kc (digestL x))) ∧ Mem w0 W' (.blk b #[u'] 119 :: .row u' 24 1 (us ++ [(p, x)]).length (valsT (us ++ [(p, x)])) :: L) := by
  have hp := text_cells HM (List.mem_cons_of_mem _ (List.mem_cons_of_mem _ hx))
  have hp1 := text_one HM (List.mem_cons_of_mem _ (List.mem_cons_of_mem _ hx))
  go_enter Try.func65, Try.ntmps65
  go_wp2_with (first
    | ((with_reducible refine st_ 119 ?_); go_must (have hu1 := row_one (HM.row m3); refine wl_store_cell _ _ _ _ _ _ _ _ v11 rfl rfl HM (.there (.there .here)) sz119 hu1 (by simp) rfl ?_; clear HM hu1; intro W HM))
    | ((with_reducible refine s_ 4 ?_); go_must (refine wl_alloc (dst := some 4) (cs := kc zeroKey) 23 _ Try.zeroValue23 kc_zero HM ?_; clear HM; intro b4 W HM))
    | ((with_reducible refine s_ 10 ?_); go_must ((refine wl_slice1V (dst := some 10) _ _ _ p Try.underlying119 Try.sizeOf24 Try.zeroValue24 hp rfl HM ?_; clear HM; intro b10 W HM)))
    | ((with_reducible refine s_ 11 ?_); go_must ((refine wl_appendM (dst := some 11) (enc := encV) _ _ _ _ _ _ _ _ _ _ _ [p] Try.underlying119 inf24 rfl (by decide) encV_len (by intro y hy; rw [List.mem_singleton.1 hy]; exact encV_one p hp1) HM (.there (.there (.there .here))) (RdL.of_blk (HM.blk m0) _ 1 rfl (by simp [encV]) (by decide)) rfl rfl (by decide) (by simp; omega) ?_; clear HM; intro v11 W HM; try dsimp only at HM)))
    | ((with_reducible refine ld_ 119 ?_); go_must (refine wl_load_cell _ _ _ _ _ _ _ _ rfl HM (by repeat first | exact List.mem_cons_self .. | refine List.mem_cons_of_mem _ ?_) (by rfl) Try.underlying119 rfl ?_))
    | ((with_reducible refine st_ 23 ?_); go_must ((refine wl_store_blk _ _ _ _ _ _ _ rfl rfl HM (.there .here) (by rw [kc_size]; exact sz23) (by simp only [kc_size]) (kc_one _) ?_); clear HM; intro W HM))
    | (go_at_call 122; go_must (((with_reducible refine (digest_c _ x _ (rd_text HM (List.mem_cons_of_mem _ (List.mem_cons_of_mem _ (List.mem_cons_of_mem _ (List.mem_cons_of_mem _ hx))))) hxl).mono ?_)); rintro e W ⟨rfl, HM'⟩; replace HM := HM.keep HM'.below; clear HM')))
  refine ret1 rfl (by (exact res_row HM rfl m1 Try.underlying23 rfl (by rw [kc_size]; exact sz23))) rfl ?_
  have H := HM.tail.tail
  rw [valsT_snoc _ _ x, show us.length + [p].length = (us ++ [(p, x)]).length by simp] at H
  exact ⟨_, rfl, H⟩

set_option maxHeartbeats 800000 in
theorem texts1_c (w0 W : World) (b : Nat) (u : Value) (us : List (Value × List UInt8)) (k : Key) (L : List It) (HM : Mem w0 W (.blk b #[u] 119 :: .row u 24 1 us.length (valsT us) :: L)) (hus : us.length ≤ 1000000) :
    Calls Try.prog 64 #[.agg (kc k), .pointer (some ⟨b, 0, none⟩)] W fun e W' => ∃ u' p, e = .returned (.agg (kc (digLeaf k))) ∧ Mem w0 W' (.blk b #[u'] 119 :: .row u' 24 1 (us ++ [(p, textLeaf k)]).length (valsT (us ++ [(p, textLeaf k)])) :: rowT (p, textLeaf k) :: L) := by
  go_enter Try.func64, Try.ntmps64
  go_wp2_with (first
    | ((with_reducible refine s_ 2 ?_); go_must (refine wl_box (dst := some 2) (cs := kc k) _ _ _ rfl rfl HM ?_; clear HM; intro b2 W HM))
    | ((with_reducible refine s_ 3 ?_); go_must (refine wl_alloc (dst := some 3) (cs := kc zeroKey) 23 _ Try.zeroValue23 kc_zero HM ?_; clear HM; intro b3 W HM))
    | ((with_reducible refine ld_ 23 ?_); go_must (refine wl_load_blk _ _ _ _ _ _ rfl HM (by repeat first | exact List.mem_cons_self .. | refine List.mem_cons_of_mem _ ?_) Try.underlying23 rfl (by rw [kc_size]; exact sz23) ?_))
    | ((with_reducible refine st_ 23 ?_); go_must ((refine wl_store_blk _ _ _ _ _ _ _ rfl rfl HM (.there (.there (.there .here))) (by rw [kc_size]; exact sz23) (by simp only [kc_size]) (kc_one _) ?_); clear HM; intro W HM))
    | (go_at_call 66; go_must (((with_reducible refine (leafTextT _ _).mono ?_)); rintro e W ⟨p, rfl, HM'⟩; replace HM := HM.join HM'; clear HM'; simp only [List.cons_append, List.nil_append] at HM; replace HM := HM.fetch2))
    | (go_at_call 65; go_must (((with_reducible refine (take_c w0 _ b u p us (textLeaf k) _ HM m0 (by rw [textLeaf_len]; decide) hus).mono ?_)); rintro e W ⟨u', rfl, HM'⟩; clear HM; rename _ => HM)))
  refine ret1 rfl (by (exact res_row HM rfl m3 Try.underlying23 rfl (by rw [kc_size]; exact sz23))) rfl ?_
  exact ⟨_, _, rfl, HM.drop5⟩
set_option maxHeartbeats 800000 in
theorem texts2_c (w0 W : World) (b : Nat) (u : Value) (us : List (Value × List UInt8)) (k k2 : Key) (L : List It) (HM : Mem w0 W (.blk b #[u] 119 :: .row u 24 1 us.length (valsT us) :: L)) (hus : us.length ≤ 1000000) :
    Calls Try.prog 67 #[.agg (kc k), .agg (kc k2), .pointer (some ⟨b, 0, none⟩)] W fun e W' => ∃ u' p, e = .returned (.agg (kc (digNode k k2))) ∧ Mem w0 W' (.blk b #[u'] 119 :: .row u' 24 1 (us ++ [(p, textNode k k2)]).length (valsT (us ++ [(p, textNode k k2)])) :: rowT (p, textNode k k2) :: L) := by
  go_enter Try.func67, Try.ntmps67
  go_wp2_with (first
    | ((with_reducible refine s_ 3 ?_); go_must (refine wl_box (dst := some 3) (cs := kc k) _ _ _ rfl rfl HM ?_; clear HM; intro b3 W HM))
    | ((with_reducible refine s_ 4 ?_); go_must (refine wl_box (dst := some 4) (cs := kc k2) _ _ _ rfl rfl HM ?_; clear HM; intro b4 W HM))
    | ((with_reducible refine s_ 5 ?_); go_must (refine wl_alloc (dst := some 5) (cs := kc zeroKey) 23 _ Try.zeroValue23 kc_zero HM ?_; clear HM; intro b5 W HM))
    | ((with_reducible refine ld_ 23 ?_); go_must (refine wl_load_blk _ _ _ _ _ _ rfl HM (by repeat first | exact List.mem_cons_self .. | refine List.mem_cons_of_mem _ ?_) Try.underlying23 rfl (by rw [kc_size]; exact sz23) ?_))
    | ((with_reducible refine st_ 23 ?_); go_must ((refine wl_store_blk _ _ _ _ _ _ _ rfl rfl HM (.there (.there (.there .here))) (by rw [kc_size]; exact sz23) (by simp only [kc_size]) (kc_one _) ?_); clear HM; intro W HM))
    | (go_at_call 68; go_must (((with_reducible refine (nodeTextT _ _ _).mono ?_)); rintro e W ⟨p, rfl, HM'⟩; replace HM := HM.join HM'; clear HM'; simp only [List.cons_append, List.nil_append] at HM; replace HM := HM.fetch3))
    | (go_at_call 65; go_must (((with_reducible refine (take_c w0 _ b u p us (textNode k k2) _ HM m0 (by rw [textNode_len]; decide) hus).mono ?_)); rintro e W ⟨u', rfl, HM'⟩; clear HM; rename _ => HM)))
  refine ret1 rfl (by (exact res_row HM rfl m3 Try.underlying23 rfl (by rw [kc_size]; exact sz23))) rfl ?_
  exact ⟨_, _, rfl, HM.drop6⟩
end
end Go.Proofs.Ythdekionepfmdaa
