/- Recordings, on: content, re-keying, playing; bytes as a string. -/
import Derived.Test.YthdekionepfmdaaCie
import Derived.Laws.BytesString
set_option linter.unusedVariables false
set_option linter.unusedSimpArgs false
set_option maxRecDepth 8000
namespace Go.Proofs.Ythdekionepfmdaa
open Go.RowKit

/-! ### A store into a part of a block -/
def writeL (cs : Array Value) (o : Nat) : List Value → Array Value
  | [] => cs
  | v :: vs => writeL (cs.setIfInBounds o v) (o + 1) vs
theorem writeL_size (vs : List Value) : ∀ (cs : Array Value) (o : Nat), (writeL cs o vs).size = cs.size := by
  induction vs with
  | nil => intro cs o; rfl
  | cons v vs ih => intro cs o; rw [writeL, ih]; simp
theorem setCells_turn (b : Nat) (t : TypeId) (vs : List Value) : ∀ (o : Nat) (W : World) (cs : Array Value), W.heap[b]? = some (.cells cs t (0, 0)) →
    W.grownBy (W.setCells b o vs) (some b) ∧ (W.setCells b o vs).heap[b]? = some (.cells (writeL cs o vs) t (0, 0)) := by
  induction vs with
  | nil => intro o W cs h; exact ⟨⟨rfl, rfl, rfl, Nat.le_refl _, fun k _ _ => rfl⟩, h⟩
  | cons v vs ih =>
    intro o W cs h
    have h1 : (W.setCell ⟨b, o, none⟩ v).heap[b]? = some (.cells (cs.setIfInBounds o v) t (0, 0)) := by
      rw [setCell_eq_setRow' W b o cs t v h]; exact setRow_heap W b cs _ t (0, 0) h
    obtain ⟨h2, h3⟩ := ih (o + 1) _ _ h1
    refine ⟨?_, h3⟩
    have h0 : W.grownBy (W.setCell ⟨b, o, none⟩ v) (some b) := by rw [setCell_eq_setRow' W b o cs t v h]; exact grownBy_setRow W b _
    exact ⟨h2.os.trans h0.os, h2.tape.trans h0.tape, h2.output.trans h0.output, Nat.le_trans h0.size h2.size, fun k hk hne => (h2.block k (Nat.lt_of_lt_of_le hk h0.size) hne).trans (h0.block k hk hne)⟩
section
variable {P : Program} {ops : Array Oper} {rest : List Oper} {a : Act} {Q : Exit → Act → World → Prop} {w0 W : World} {L : List It} {dst : Option Tmp} {tt : TypeId} {ps : String} {af : Array Edge}
theorem wl_store_sub (ty : TypeId) (x y : Operand) (b o : Nat) (cs cs' part : Array Value) (t : TypeId) {L' : List It} (hx : a.eval x = .pointer (some ⟨b, o, none⟩)) (hy : a.eval y = .agg part) (HM : Mem w0 W L) (hk : Repl (.blk b cs t) (.blk b cs' t) L L')
    (hi : (P.info? ty).map (·.size) = some part.size) (h1 : part.all (·.oneCell') = true) (ho : o + part.size ≤ cs.size) (hcs : writeL cs o part.toList = cs')
    (h : ∀ W', Mem w0 W' L' → wpList P ops Q rest (a.put dst undef) W') : wpList P ops Q (Oper.mk dst (.store ty x y) tt ps af none :: rest) a W := by
  subst hcs
  have hb := HM.blk hk.mem
  refine wpList_store_mid rfl ty x y rfl b o part hx hy (fun j hj => ⟨?_, ?_⟩) hi h1 (h _ ?_)
  · rw [cell_of_row W b _ cs t _ hb]; simp; omega
  · exact frozen_of_row W b _ cs t hb
  · obtain ⟨h2, h3⟩ := setCells_turn b t part.toList o W cs hb
    exact HM.turn hk h2 ⟨(HM.ok _ hk.mem).1, h3⟩ (fun b' hb' => .inl hb')
end
theorem write_box (b b' c : Key) (v : Value) : writeL (recC b c v) 0 (kc b').toList = recC b' c v := by
  rw [recC_eq, recC_eq, kc_lit b, kc_lit b', kc_lit c]; simp [writeL]
theorem set_data (b c : Key) (v u : Value) : (recC b c v).setIfInBounds 32 u = recC b c u := by
  simp [recC, encK_len, List.set_append]
theorem run_build_key0 (w : World) : (Instr.build 23 #[]).run Try.prog w = .ok (.agg (kc zeroKey)) w := by
  rw [← kc_zero]
  simp [Instr.build, Try.zeroValue23, run_underlying Try.underlying23, Try.sizeOf5, Instr.fill, show ∀ cs, (Value.agg cs).cells = cs from fun _ => rfl]
theorem keyEqI (a b : Key) (w : World) : (Op.equalIn 10000 23 (.agg (kc a)) (.agg (kc b))).run Try.prog w = .ok (decide (a = b)) w :=
  run_eq_key 9998 Try.underlying23 Try.underlying5 Try.sizeOf5 a b w

section
attribute [local go_sem] keyEqI
set_option maxHeartbeats 400000 in
theorem content_ok (k bx ck : Key) (v : Value) (hv1 : v.oneCell' = true) (h : deriveK (decryptK k bx) 53 0 = ck) (w : World) :
    Calls Try.prog 58 #[.agg (kc k), .agg (recC bx ck v)] w fun e w' => e = .returned (.tuple #[.agg (kc (decryptK k bx)), .int .i64 0]) ∧ Mem w w' [] := by
  have HM := Mem.start w
  go_enter Try.func58, Try.ntmps58
  go_wp2_with (first
    | ((with_reducible refine s_ 2 ?_); go_must (refine wl_box (dst := some 2) (cs := kc k) _ _ _ rfl rfl HM ?_; clear HM; intro b2 W HM))
    | ((with_reducible refine s_ 3 ?_); go_must (refine wl_box (dst := some 3) (cs := recC bx ck v) _ _ _ rfl rfl HM ?_; clear HM; intro b3 W HM))
    | ((with_reducible refine s_ 4 ?_); go_must (refine wl_alloc (dst := some 4) (cs := kc zeroKey) 23 _ Try.zeroValue23 kc_zero HM ?_; clear HM; intro b4 W HM))
    | ((with_reducible refine s_ 9 ?_); go_must (refine wl_load_sub (dst := some 9) (cs' := kc bx) _ _ _ _ _ _ _ _ rfl HM m1 Try.underlying23 rfl sz23 (by exact rec_box _ _ _) (by simp [kc_size]) ?_))
    | ((with_reducible refine s_ 6 ?_); go_must (refine wl_alloc (dst := some 6) (cs := kc zeroKey) 23 _ Try.zeroValue23 kc_zero HM ?_; clear HM; intro b6 W HM))
    | ((with_reducible refine ld_ 23 ?_); go_must (refine wl_load_blk _ _ _ _ _ _ rfl HM (by repeat first | exact List.mem_cons_self .. | refine List.mem_cons_of_mem _ ?_) Try.underlying23 rfl (by rw [kc_size]; exact sz23) ?_))
    | ((with_reducible refine st_ 23 ?_); go_must ((refine wl_store_blk _ _ _ _ _ _ _ rfl rfl HM .here (by rw [kc_size]; exact sz23) (by simp only [kc_size]) (kc_one _) ?_); clear HM; intro W HM))
    | (go_at_call 120; go_must (((with_reducible refine (decrypt_c _ _ _).mono ?_)); rintro e W ⟨rfl, HM'⟩; replace HM := HM.keep HM'.below; clear HM')))
  replace HM := HM.drew
  refine wp_region_mixN (fun W => Held w W [.blk b6 (kc (decryptK k bx)) 23, .blk b3 (recC bx ck v) 26]) (fun W => Held w W [.blk b6 (kc (decryptK k bx)) 23, .blk b3 (recC bx ck v) 26]) (.cons (2, 0) (.cons (2, 2) (.cons (2, 3) (.cons (0, 1) (.cons (2, 4) .nil))))) [] (by kernel_rfl) (by kernel_rfl) (by kernel_rfl) (fun W h => Held.weak h (by simp)) (HM.held (by simp)) ?_
  revert HM; generalize World.drew _ = W; intro HM
  have HS1 : Held w W [.blk b6 (kc (decryptK k bx)) 23, .blk b3 (recC bx ck v) 26] := HM.held (by simp)
  have HS2 : Held w W [.blk b6 (kc (decryptK k bx)) 23, .blk b3 (recC bx ck v) 26] := HM.held (by simp)
  refine wm_q2 (i := 0) (some 11) rfl rfl rfl HS2 (fun W HS => (by ((refine ry_load_blk _ _ _ _ _ _ HS ?_ m0 Try.underlying23 rfl (by rw [kc_size]; exact sz23); rfl)))) ?_
  simp only [Act.put, List.getElem_toArray, List.getElem_cons_succ, List.getElem_cons_zero, List.setIfInBounds_toArray, List.set_cons_succ, List.set_cons_zero]
  refine wm_q2 (i := 2) (v := ?v2_2) (some 13) rfl rfl rfl HS2 (fun W HS => ?y2_2) ?_
  case y2_2 => (go_simp; try with_reducible rfl)
  simp only [Act.put, List.getElem_toArray, List.getElem_cons_succ, List.getElem_cons_zero, List.setIfInBounds_toArray, List.set_cons_succ, List.set_cons_zero]
  refine wm_q2 (i := 3) (some 14) rfl rfl rfl HS2 (fun W HS => (by refine ry_load_sub _ _ _ _ _ _ (kc ck) _ _ HS ?_ m1 Try.underlying23 rfl sz23 (by exact rec_check _ _ _) (by simp [kc_size]); rfl)) ?_
  simp only [Act.put, List.getElem_toArray, List.getElem_cons_succ, List.getElem_cons_zero, List.setIfInBounds_toArray, List.set_cons_succ, List.set_cons_zero]
  refine wm_e0 (i := 1) rfl ?_
  go_wp2_with (first
    | (go_at_call 54; go_must (((with_reducible refine (check_c _ _).mono ?_)); rintro e W ⟨rfl, HM'⟩; replace HM := HM.keep HM'.below; clear HM')))
  refine ⟨HM.held (by simp), ?_⟩
  clear HS1 HS2
  have HS1 : Held w W [.blk b6 (kc (decryptK k bx)) 23, .blk b3 (recC bx ck v) 26] := HM.held (by simp)
  have HS2 : Held w W [.blk b6 (kc (decryptK k bx)) 23, .blk b3 (recC bx ck v) 26] := HM.held (by simp)
  refine wm_q2 (i := 4) (v := ?v2_4) (some 15) rfl rfl rfl HS2 (fun W HS => ?y2_4) ?_
  case y2_4 => (go_simp; try with_reducible rfl)
  simp only [Act.put, List.getElem_toArray, List.getElem_cons_succ, List.getElem_cons_zero, List.setIfInBounds_toArray, List.set_cons_succ, List.set_cons_zero]
  refine wm_nilN ?_
  clear HS1 HS2
  have h' : ¬ (deriveK (decryptK k bx) 53 0 ≠ ck) := fun e => e h
  go_wp2_with (first
    | ((with_reducible refine ld_ 23 ?_); go_must (refine wl_load_blk _ _ _ _ _ _ rfl HM (by repeat first | exact List.mem_cons_self .. | refine List.mem_cons_of_mem _ ?_) Try.underlying23 rfl (by rw [kc_size]; exact sz23) ?_))
    | ((with_reducible refine st_ 23 ?_); go_must ((refine wl_store_blk _ _ _ _ _ _ _ rfl rfl HM (.there .here) (by rw [kc_size]; exact sz23) (by simp only [kc_size]) (kc_one _) ?_); clear HM; intro W HM)))
  refine ret2 rfl (by (exact res_row HM rfl m1 Try.underlying23 rfl (by rw [kc_size]; exact sz23))) (res_tmp rfl) rfl ?_
  exact ⟨rfl, HM.base⟩

set_option maxHeartbeats 400000 in
theorem content_no (k bx ck : Key) (v : Value) (hv1 : v.oneCell' = true) (h : deriveK (decryptK k bx) 53 0 ≠ ck) (w : World) :
    Calls Try.prog 58 #[.agg (kc k), .agg (recC bx ck v)] w fun e w' => e = .returned (.tuple #[.agg (kc zeroKey), .int .i64 53]) ∧ Mem w w' [] := by
  have HM := Mem.start w
  go_enter Try.func58, Try.ntmps58
  go_wp2_with (first
    | ((with_reducible refine s_ 2 ?_); go_must (refine wl_box (dst := some 2) (cs := kc k) _ _ _ rfl rfl HM ?_; clear HM; intro b2 W HM))
    | ((with_reducible refine s_ 3 ?_); go_must (refine wl_box (dst := some 3) (cs := recC bx ck v) _ _ _ rfl rfl HM ?_; clear HM; intro b3 W HM))
    | ((with_reducible refine s_ 4 ?_); go_must (refine wl_alloc (dst := some 4) (cs := kc zeroKey) 23 _ Try.zeroValue23 kc_zero HM ?_; clear HM; intro b4 W HM))
    | ((with_reducible refine s_ 9 ?_); go_must (refine wl_load_sub (dst := some 9) (cs' := kc bx) _ _ _ _ _ _ _ _ rfl HM m1 Try.underlying23 rfl sz23 (by exact rec_box _ _ _) (by simp [kc_size]) ?_))
    | ((with_reducible refine s_ 6 ?_); go_must (refine wl_alloc (dst := some 6) (cs := kc zeroKey) 23 _ Try.zeroValue23 kc_zero HM ?_; clear HM; intro b6 W HM))
    | ((with_reducible refine ld_ 23 ?_); go_must (refine wl_load_blk _ _ _ _ _ _ rfl HM (by repeat first | exact List.mem_cons_self .. | refine List.mem_cons_of_mem _ ?_) Try.underlying23 rfl (by rw [kc_size]; exact sz23) ?_))
    | ((with_reducible refine st_ 23 ?_); go_must ((refine wl_store_blk _ _ _ _ _ _ _ rfl rfl HM .here (by rw [kc_size]; exact sz23) (by simp only [kc_size]) (kc_one _) ?_); clear HM; intro W HM))
    | (go_at_call 120; go_must (((with_reducible refine (decrypt_c _ _ _).mono ?_)); rintro e W ⟨rfl, HM'⟩; replace HM := HM.keep HM'.below; clear HM')))
  replace HM := HM.drew
  refine wp_region_mixN (fun W => Held w W [.blk b6 (kc (decryptK k bx)) 23, .blk b3 (recC bx ck v) 26]) (fun W => Held w W [.blk b6 (kc (decryptK k bx)) 23, .blk b3 (recC bx ck v) 26]) (.cons (2, 0) (.cons (2, 2) (.cons (2, 3) (.cons (0, 1) (.cons (2, 4) .nil))))) [] (by kernel_rfl) (by kernel_rfl) (by kernel_rfl) (fun W h => Held.weak h (by simp)) (HM.held (by simp)) ?_
  revert HM; generalize World.drew _ = W; intro HM
  have HS1 : Held w W [.blk b6 (kc (decryptK k bx)) 23, .blk b3 (recC bx ck v) 26] := HM.held (by simp)
  have HS2 : Held w W [.blk b6 (kc (decryptK k bx)) 23, .blk b3 (recC bx ck v) 26] := HM.held (by simp)
  refine wm_q2 (i := 0) (some 11) rfl rfl rfl HS2 (fun W HS => (by ((refine ry_load_blk _ _ _ _ _ _ HS ?_ m0 Try.underlying23 rfl (by rw [kc_size]; exact sz23); rfl)))) ?_
  simp only [Act.put, List.getElem_toArray, List.getElem_cons_succ, List.getElem_cons_zero, List.setIfInBounds_toArray, List.set_cons_succ, List.set_cons_zero]
  refine wm_q2 (i := 2) (v := ?v2_2) (some 13) rfl rfl rfl HS2 (fun W HS => ?y2_2) ?_
  case y2_2 => (go_simp; try with_reducible rfl)
  simp only [Act.put, List.getElem_toArray, List.getElem_cons_succ, List.getElem_cons_zero, List.setIfInBounds_toArray, List.set_cons_succ, List.set_cons_zero]
  refine wm_q2 (i := 3) (some 14) rfl rfl rfl HS2 (fun W HS => (by refine ry_load_sub _ _ _ _ _ _ (kc ck) _ _ HS ?_ m1 Try.underlying23 rfl sz23 (by exact rec_check _ _ _) (by simp [kc_size]); rfl)) ?_
  simp only [Act.put, List.getElem_toArray, List.getElem_cons_succ, List.getElem_cons_zero, List.setIfInBounds_toArray, List.set_cons_succ, List.set_cons_zero]
  refine wm_e0 (i := 1) rfl ?_
  go_wp2_with (first
    | (go_at_call 54; go_must (((with_reducible refine (check_c _ _).mono ?_)); rintro e W ⟨rfl, HM'⟩; replace HM := HM.keep HM'.below; clear HM')))
  refine ⟨HM.held (by simp), ?_⟩
  clear HS1 HS2
  have HS1 : Held w W [.blk b6 (kc (decryptK k bx)) 23, .blk b3 (recC bx ck v) 26] := HM.held (by simp)
  have HS2 : Held w W [.blk b6 (kc (decryptK k bx)) 23, .blk b3 (recC bx ck v) 26] := HM.held (by simp)
  refine wm_q2 (i := 4) (v := ?v2_4) (some 15) rfl rfl rfl HS2 (fun W HS => ?y2_4) ?_
  case y2_4 => (go_simp; try with_reducible rfl)
  simp only [Act.put, List.getElem_toArray, List.getElem_cons_succ, List.getElem_cons_zero, List.setIfInBounds_toArray, List.set_cons_succ, List.set_cons_zero]
  refine wm_nilN ?_
  clear HS1 HS2
  go_wp2_with (first
    | ((with_reducible refine s_ 16 ?_); go_must (refine wl_build (dst := some 16) _ _ _ _ (run_build_key0) rfl ?_))
    | ((with_reducible refine st_ 23 ?_); go_must ((refine wl_store_blk _ _ _ _ _ _ _ rfl rfl HM (.there .here) (by rw [kc_size]; exact sz23) (by simp only [kc_size]) (kc_one _) ?_); clear HM; intro W HM)))
  refine ret2 rfl (by (exact res_row HM rfl m1 Try.underlying23 rfl (by rw [kc_size]; exact sz23))) (res_tmp rfl) rfl ?_
  exact ⟨rfl, HM.base⟩
end

set_option maxHeartbeats 400000 in
theorem rekey_no (k k2 bx ck : Key) (v : Value) (l : List UInt8) (w : World) (hR : RdL encB 1 w v l) (h : deriveK (decryptK k bx) 53 0 ≠ ck) :
    Calls Try.prog 11 #[.agg (kc k), .agg (kc k2), .agg (recC bx ck v)] w fun e w' => e = .returned (.tuple #[.agg (recC zeroKey zeroKey (.slice none 0 0)), .int .i64 53]) ∧ Mem w w' [] := by
  have HM := Mem.start w
  have hv1 := rd_one hR
  go_enter Try.func11, Try.ntmps11
  go_wp2_with (first
    | ((with_reducible refine s_ 3 ?_); go_must (refine wl_box (dst := some 3) (cs := kc k) _ _ _ rfl rfl HM ?_; clear HM; intro b3 W HM))
    | ((with_reducible refine s_ 4 ?_); go_must (refine wl_box (dst := some 4) (cs := kc k2) _ _ _ rfl rfl HM ?_; clear HM; intro b4 W HM))
    | ((with_reducible refine s_ 5 ?_); go_must (refine wl_box (dst := some 5) (cs := recC bx ck v) _ _ _ rfl rfl HM ?_; clear HM; intro b5 W HM))
    | ((with_reducible refine s_ 6 ?_); go_must (refine wl_alloc (dst := some 6) (cs := recC zeroKey zeroKey (.slice none 0 0)) 26 _ Try.zeroValue26 rfl HM ?_; clear HM; intro b6 W HM))
    | ((with_reducible refine s_ 8 ?_); go_must (refine wl_alloc (dst := some 8) (cs := kc zeroKey) 23 _ Try.zeroValue23 kc_zero HM ?_; clear HM; intro b8 W HM))
    | ((with_reducible refine s_ 18 ?_); go_must (refine wl_build (dst := some 18) _ _ _ _ (run_build_rec0) rfl ?_))
    | ((with_reducible refine ld_ 23 ?_); go_must (refine wl_load_blk _ _ _ _ _ _ rfl HM (by repeat first | exact List.mem_cons_self .. | refine List.mem_cons_of_mem _ ?_) Try.underlying23 rfl (by rw [kc_size]; exact sz23) ?_))
    | ((with_reducible refine ld_ 26 ?_); go_must (refine wl_load_blk _ _ _ _ _ _ rfl HM (by repeat first | exact List.mem_cons_self .. | refine List.mem_cons_of_mem _ ?_) Try.underlying26 rfl (by rw [recC_size]; exact sz26) ?_))
    | ((with_reducible refine st_ 23 ?_); go_must ((refine wl_store_blk _ _ _ _ _ _ _ rfl rfl HM .here (by rw [kc_size]; exact sz23) (by simp only [kc_size]) (kc_one _) ?_); clear HM; intro W HM))
    | ((with_reducible refine st_ 26 ?_); go_must ((refine wl_store_blk _ _ _ _ _ _ _ rfl rfl HM (.there .here) (by rw [recC_size]; exact sz26) (by simp only [recC_size]) (recC_one _ _ _ (by first | assumption | rfl)) ?_); clear HM; intro W HM))
    | (go_at_call 58; go_must (((with_reducible refine (content_no _ _ _ _ hv1 h _).mono ?_)); rintro e W ⟨rfl, HM'⟩; replace HM := HM.keep HM'.below; clear HM')))
  refine ret2 rfl (by (exact res_row HM rfl m1 Try.underlying26 rfl (by rw [recC_size]; exact sz26))) (res_tmp rfl) rfl ?_
  exact ⟨rfl, HM.base⟩

set_option maxHeartbeats 400000 in
theorem rekey_c (k k2 bx ck : Key) (v : Value) (l : List UInt8) (w : World) (hR : RdL encB 1 w v l) (hl : l.length ≤ 140737488351232) (h : deriveK (decryptK k bx) 53 0 = ck) :
    Calls Try.prog 11 #[.agg (kc k), .agg (kc k2), .agg (recC bx ck v)] w fun e w' => ∃ u, e = .returned (.tuple #[.agg (recC (encryptK k2 (decryptK k bx)) ck u), .int .i64 0]) ∧ Mem w w' [.row u 5 1 l.length (l.flatMap encB)] := by
  have HM := Mem.start w
  have hv1 := rd_one hR
  go_enter Try.func11, Try.ntmps11
  go_wp2_with (first
    | ((with_reducible refine s_ 3 ?_); go_must (refine wl_box (dst := some 3) (cs := kc k) _ _ _ rfl rfl HM ?_; clear HM; intro b3 W HM))
    | ((with_reducible refine s_ 4 ?_); go_must (refine wl_box (dst := some 4) (cs := kc k2) _ _ _ rfl rfl HM ?_; clear HM; intro b4 W HM))
    | ((with_reducible refine s_ 5 ?_); go_must (refine wl_box (dst := some 5) (cs := recC bx ck v) _ _ _ rfl rfl HM ?_; clear HM; intro b5 W HM))
    | ((with_reducible refine s_ 6 ?_); go_must (refine wl_alloc (dst := some 6) (cs := recC zeroKey zeroKey (.slice none 0 0)) 26 _ Try.zeroValue26 rfl HM ?_; clear HM; intro b6 W HM))
    | ((with_reducible refine s_ 8 ?_); go_must (refine wl_alloc (dst := some 8) (cs := kc zeroKey) 23 _ Try.zeroValue23 kc_zero HM ?_; clear HM; intro b8 W HM))
    | ((with_reducible refine ld_ 23 ?_); go_must (refine wl_load_blk _ _ _ _ _ _ rfl HM (by repeat first | exact List.mem_cons_self .. | refine List.mem_cons_of_mem _ ?_) Try.underlying23 rfl (by rw [kc_size]; exact sz23) ?_))
    | ((with_reducible refine ld_ 26 ?_); go_must (refine wl_load_blk _ _ _ _ _ _ rfl HM (by repeat first | exact List.mem_cons_self .. | refine List.mem_cons_of_mem _ ?_) Try.underlying26 rfl (by rw [recC_size]; exact sz26) ?_))
    | ((with_reducible refine st_ 23 ?_); go_must ((refine wl_store_blk _ _ _ _ _ _ _ rfl rfl HM .here (by rw [kc_size]; exact sz23) (by simp only [kc_size]) (kc_one _) ?_); clear HM; intro W HM))
    | (go_at_call 58; go_must (((with_reducible refine (content_ok _ _ _ _ hv1 h _).mono ?_)); rintro e W ⟨rfl, HM'⟩; replace HM := HM.keep HM'.below; clear HM')))
  replace HM := HM.drew
  refine wp_region_mixN (fun W => Held w W [.blk b8 (kc (decryptK k bx)) 23, .blk b5 (recC bx ck v) 26, .blk b4 (kc k2) 23]) (fun W => Held w W [.blk b8 (kc (decryptK k bx)) 23, .blk b5 (recC bx ck v) 26, .blk b4 (kc k2) 23]) (.cons (2, 0) (.cons (2, 1) (.cons (2, 3) (.cons (2, 4) (.cons (2, 5) (.cons (2, 6) (.cons (0, 2) (.cons (0, 7) (.cons (2, 8) (.cons (0, 9) (.cons (2, 10) .nil))))))))))) [] (by kernel_rfl) (by kernel_rfl) (by kernel_rfl) (fun W h => Held.weak h (by simp)) (HM.held (by simp)) ?_
  revert HM; generalize World.drew _ = W; intro HM
  have HS1 : Held w W [.blk b8 (kc (decryptK k bx)) 23, .blk b5 (recC bx ck v) 26, .blk b4 (kc k2) 23] := HM.held (by simp)
  have HS2 : Held w W [.blk b8 (kc (decryptK k bx)) 23, .blk b5 (recC bx ck v) 26, .blk b4 (kc k2) 23] := HM.held (by simp)
  refine wm_q2 (i := 0) (some 20) rfl rfl rfl HS2 (fun W HS => (by ((refine ry_load_blk _ _ _ _ _ _ HS ?_ m2 Try.underlying23 rfl (by rw [kc_size]; exact sz23); rfl)))) ?_
  simp only [Act.put, List.getElem_toArray, List.getElem_cons_succ, List.getElem_cons_zero, List.setIfInBounds_toArray, List.set_cons_succ, List.set_cons_zero]
  refine wm_q2 (i := 1) (some 21) rfl rfl rfl HS2 (fun W HS => (by ((refine ry_load_blk _ _ _ _ _ _ HS ?_ m0 Try.underlying23 rfl (by rw [kc_size]; exact sz23); rfl)))) ?_
  simp only [Act.put, List.getElem_toArray, List.getElem_cons_succ, List.getElem_cons_zero, List.setIfInBounds_toArray, List.set_cons_succ, List.set_cons_zero]
  refine wm_q2 (i := 3) (v := ?v4_3) (some 23) rfl rfl rfl HS2 (fun W HS => ?y4_3) ?_
  case y4_3 => (go_simp; try with_reducible rfl)
  simp only [Act.put, List.getElem_toArray, List.getElem_cons_succ, List.getElem_cons_zero, List.setIfInBounds_toArray, List.set_cons_succ, List.set_cons_zero]
  refine wm_q2 (i := 4) (some 24) rfl rfl rfl HS2 (fun W HS => (by refine ry_load_sub _ _ _ _ _ _ (kc ck) _ _ HS ?_ m1 Try.underlying23 rfl sz23 (by exact rec_check _ _ _) (by simp [kc_size]); rfl)) ?_
  simp only [Act.put, List.getElem_toArray, List.getElem_cons_succ, List.getElem_cons_zero, List.setIfInBounds_toArray, List.set_cons_succ, List.set_cons_zero]
  refine wm_q2 (i := 5) (v := ?v4_5) (some 25) rfl rfl rfl HS2 (fun W HS => ?y4_5) ?_
  case y4_5 => (go_simp; try with_reducible rfl)
  simp only [Act.put, List.getElem_toArray, List.getElem_cons_succ, List.getElem_cons_zero, List.setIfInBounds_toArray, List.set_cons_succ, List.set_cons_zero]
  refine wm_q2 (i := 6) (some 26) rfl rfl rfl HS2 (fun W HS => (by ((refine ry_load_cell _ _ _ _ _ _ (v) _ HS ?_ m1 (rec_data _ _ _) Try.underlying24 rfl; rfl)))) ?_
  simp only [Act.put, List.getElem_toArray, List.getElem_cons_succ, List.getElem_cons_zero, List.setIfInBounds_toArray, List.set_cons_succ, List.set_cons_zero]
  refine wm_e0 (i := 2) rfl ?_
  go_wp2_with (first
    | (go_at_call 53; go_must (((with_reducible refine (encrypt_c _ _ _).mono ?_)); rintro e W ⟨rfl, HM'⟩; replace HM := HM.keep HM'.below; clear HM')))
  refine ⟨HM.held (by simp), ?_⟩
  clear HS1 HS2
  have HS1 : Held w W [.blk b8 (kc (decryptK k bx)) 23, .blk b5 (recC bx ck v) 26, .blk b4 (kc k2) 23] := HM.held (by simp)
  have HS2 : Held w W [.blk b8 (kc (decryptK k bx)) 23, .blk b5 (recC bx ck v) 26, .blk b4 (kc k2) 23] := HM.held (by simp)
  refine wm_e0 (i := 7) rfl ?_
  go_wp2_with (first
    | (go_at_call 59; go_must (((with_reducible refine (clone_c _ _ _ (hR.mem HM) hl).mono ?_)); rintro e W ⟨u, rfl, HM'⟩; replace HM := HM.join HM'; clear HM'; simp only [List.cons_append, List.nil_append] at HM; have hv := row_cells (HM.row m0); have hu1 := row_one (HM.row m0))))
  refine ⟨HM.held (by simp), ?_⟩
  clear HS1 HS2
  have HS1 : Held w W [.blk b8 (kc (decryptK k bx)) 23, .blk b5 (recC bx ck v) 26, .blk b4 (kc k2) 23] := HM.held (by simp)
  have HS2 : Held w W [.blk b8 (kc (decryptK k bx)) 23, .blk b5 (recC bx ck v) 26, .blk b4 (kc k2) 23] := HM.held (by simp)
  refine wm_q2 (i := 8) (some 28) rfl rfl rfl HS2 (fun W HS => ry_build _ _ _ _ (run_build_rec _ _ _ hv) rfl) ?_
  simp only [Act.put, List.getElem_toArray, List.getElem_cons_succ, List.getElem_cons_zero, List.setIfInBounds_toArray, List.set_cons_succ, List.set_cons_zero]
  refine wm_e0 (i := 9) rfl ?_
  go_wp2_with (first
    | ((with_reducible refine st_ 26 ?_); go_must ((refine wl_store_blk _ _ _ _ _ _ _ rfl rfl HM (.there (.there .here)) (by rw [recC_size]; exact sz26) (by simp only [recC_size]) (recC_one _ _ _ (by first | assumption | rfl)) ?_); clear HM; intro W HM)))
  refine ⟨HM.held (by simp), ?_⟩
  clear HS1 HS2
  have HS1 : Held w W [.blk b8 (kc (decryptK k bx)) 23, .blk b5 (recC bx ck v) 26, .blk b4 (kc k2) 23] := HM.held (by simp)
  have HS2 : Held w W [.blk b8 (kc (decryptK k bx)) 23, .blk b5 (recC bx ck v) 26, .blk b4 (kc k2) 23] := HM.held (by simp)
  refine wm_q2 (i := 10) (v := ?v4_8) (some 7) rfl rfl rfl HS2 (fun W HS => ?y4_8) ?_
  case y4_8 => (go_simp; try with_reducible rfl)
  simp only [Act.put, List.getElem_toArray, List.getElem_cons_succ, List.getElem_cons_zero, List.setIfInBounds_toArray, List.set_cons_succ, List.set_cons_zero]
  refine wm_nilN ?_
  clear HS1 HS2
  go_wp2_with (fail)
  refine ret2 rfl (by (exact res_row HM rfl m2 Try.underlying26 rfl (by rw [recC_size]; exact sz26))) (res_tmp rfl) rfl ?_
  exact ⟨_, rfl, HM.only m0⟩
end Go.Proofs.Ythdekionepfmdaa
