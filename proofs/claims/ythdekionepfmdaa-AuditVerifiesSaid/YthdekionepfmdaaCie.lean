/- Recordings. -/
import Derived.Test.YthdekionepfmdaaCid
import Derived.Laws.Cover3
set_option linter.unusedVariables false
set_option maxRecDepth 8000
set_option linter.unusedSimpArgs false
namespace Go.Proofs.Ythdekionepfmdaa
open Go.RowKit

theorem run_eql_nil {P : Program} {t e : TypeId} (h : P.underlying t = some (.slice e)) (a : Option Addr) (l c : Nat) (w : World) : (binOp .eql t (.slice a l c) (.slice none 0 0)).run P w = .ok (.bool a.isNone) w := by
  simp only [binOp]
  simp [run_equal_slice_nil w t e a l c h]
section
variable {P : Program} {ops : Array Oper} {rest : List Oper} {a : Act} {Q : Exit → Act → World → Prop} {w0 W : World} {L : List It} {dst : Option Tmp} {tt : TypeId} {ps : String} {af : Array Edge}
theorem ry_build {gd : Option (Nat × Bool)} (ty : TypeId) (parts : Array (Nat × Operand)) (vs : List (Nat × Value)) (v : Value) (h : ∀ w, (Instr.build ty vs.toArray).run P w = .ok v w) (hp : parts.toList.map (fun p => (p.1, a.eval p.2)) = vs) :
    (execOp a.eval (Oper.mk dst (.build ty parts) tt ps af gd)).run P W = .ok (.value v) W := by
  have e : (parts.map fun (i, x) => (i, a.eval x)) = vs.toArray := by rw [← hp]; apply Array.ext'; simp
  unfold execOp
  simp only [e, Sem.run_bind, h, Result.andThen_ok, Sem.run_pure]
theorem wl_build (ty : TypeId) (parts : Array (Nat × Operand)) (vs : List (Nat × Value)) (v : Value) (h : ∀ w, (Instr.build ty vs.toArray).run P w = .ok v w) (hp : parts.toList.map (fun p => (p.1, a.eval p.2)) = vs) (hk : wpList P ops Q rest (a.put dst v) W) :
    wpList P ops Q (Oper.mk dst (.build ty parts) tt ps af none :: rest) a W := by
  refine wpList_plain rfl fun K hK => ?_
  have := ry_build (P := P) (a := a) (W := W) (dst := dst) (tt := tt) (ps := ps) (af := af) (gd := none) ty parts vs v h hp
  unfold Oper.wp
  rw [this]
  exact hK _ _ hk
/-- '[]T{}': an empty row of its own. -/
theorem wl_empty (t : TypeId) (e : TypeId) (size : Nat) (ht : P.underlying t = some (.slice e)) (hs : ∀ w, (sizeOf e).run P w = .ok size w) (HM : Mem w0 W L)
    (h : ∀ b W', Mem w0 W' (.row (.slice (some ⟨b, 0, none⟩) 0 0) e size 0 [] :: L) → wpList P ops Q rest (a.put dst (.slice (some ⟨b, 0, none⟩) 0 0)) W') :
    wpList P ops Q (Oper.mk dst (.buildSlice t 0 #[]) tt ps af none :: rest) a W := by
  refine wpList_plain rfl fun K hK => ?_
  have h1 := h W.heap.size (W.alloc (.cells #[] e)) ((HM.new #[] e).toRow size 0 .here (by simp) (by simp [maxLen]))
  unfold Oper.wp execOp
  simp only [Instr.buildSlice, Sem.run_bind, Sem.run_pure, Result.andThen_ok, run_underlying ht, hs, Nat.zero_mul, if_neg (show ¬ 0 > 2 ^ 24 by decide), if_true, newRow]
  have e0 : ∀ f : Nat → Value, Array.map f (Array.range 0) = #[] := fun f => by simp [Array.range]
  simp [Instr.fill, e0]
  exact hK _ _ h1
end
theorem eqlB (a : Option Addr) (l c : Nat) (w : World) : (binOp .eql 24 (.slice a l c) (.slice none 0 0)).run Try.prog w = .ok (.bool a.isNone) w := run_eql_nil Try.underlying24 a l c w
theorem derive53_c (k : Key) (w : World) : Calls Try.prog 110 #[.agg (kc k), .int .u8 53, .int .u64 0] w fun e w' => e = .returned (.agg (kc (deriveK k 53 0))) ∧ Mem w w' [] := derive_c k 53 0 w
theorem stream0_no (k : Key) (v : Value) (l : List UInt8) (w : World) (hR : RdL encB 1 w v l) (hl : 16384 < l.length) :
    Calls Try.prog 52 #[.agg (kc k), .int .u64 0, v] w fun e w' => e = .returned (.tuple #[.slice none 0 0, .int .i64 4]) ∧ Mem w w' [] := stream_no k 0 v l w hR hl
theorem stream0_c (k : Key) (v : Value) (l : List UInt8) (w : World) (hR : RdL encB 1 w v l) (hl : l.length ≤ 16384) :
    Calls Try.prog 52 #[.agg (kc k), .int .u64 0, v] w fun e w' => ∃ u, e = .returned (.tuple #[u, .int .i64 0]) ∧ Mem w w' [.row u 5 1 l.length ((streamL k 0 l).flatMap encB)] := stream_c k 0 v l w hR hl
def recC (b c : Key) (v : Value) : Array Value := (encK b ++ encK c ++ [v]).toArray
theorem recC_size (b c : Key) (v : Value) : (recC b c v).size = 33 := by simp [recC, encK_len]

attribute [local go_sem] eqlB in
set_option maxRecDepth 3000 in
set_option maxHeartbeats 400000 in
theorem clone_c (v : Value) (l : List UInt8) (w : World) (hR : RdL encB 1 w v l) (hl : l.length ≤ 140737488351232) :
    Calls Try.prog 59 #[v] w fun e w' => ∃ u, e = .returned u ∧ Mem w w' [.row u 5 1 l.length (l.flatMap encB)] := by
  have HM := Mem.start w
  obtain ⟨A, c, rfl, hc, hm, hr⟩ := id hR
  cases A with
  | none =>
    have hnil : l = [] := by
      rcases l with _ | ⟨x, l⟩
      · rfl
      · obtain ⟨b, o, e, _⟩ := hr (by simp)
        cases e
    subst hnil
    go_enter Try.func59, Try.ntmps59
    go_wp2_with (fail)
    refine ret1 rfl (res_tmp rfl) rfl ?_
    exact ⟨_, rfl, HM.nilrow _ _⟩
  | some ad =>
    go_enter Try.func59, Try.ntmps59
    go_wp2_with (first
      | ((with_reducible refine s_ 5 ?_); go_must ((refine wl_empty (dst := some 5) _ _ _ Try.underlying24 Try.sizeOf5 HM ?_; clear HM; intro b5 W HM)))
      | ((with_reducible refine s_ 7 ?_); go_must (refine wl_append (dst := some 7) (enc := encB) _ _ _ _ _ _ _ _ _ _ _ (l) Try.underlying24 inf5 rfl (by decide) encB_len encB_one HM .here (hR.mem HM) rfl rfl (by decide) (by omega) ?_; clear HM; intro v7 W HM; try dsimp only at HM)))
    refine ret1 rfl (res_tmp rfl) rfl ?_
    rw [Nat.zero_add] at HM
    exact ⟨_, rfl, HM⟩

theorem kc_lit (k : Key) : kc k = #[.int .u8 k[0].toNat, .int .u8 k[1].toNat, .int .u8 k[2].toNat, .int .u8 k[3].toNat, .int .u8 k[4].toNat, .int .u8 k[5].toNat, .int .u8 k[6].toNat, .int .u8 k[7].toNat,
    .int .u8 k[8].toNat, .int .u8 k[9].toNat, .int .u8 k[10].toNat, .int .u8 k[11].toNat, .int .u8 k[12].toNat, .int .u8 k[13].toNat, .int .u8 k[14].toNat, .int .u8 k[15].toNat] := by
  apply Array.ext_getElem?
  intro i
  rcases Nat.lt_or_ge i 16 with h | h
  · rw [kc_at k i h]
    have : i = 0 ∨ i = 1 ∨ i = 2 ∨ i = 3 ∨ i = 4 ∨ i = 5 ∨ i = 6 ∨ i = 7 ∨ i = 8 ∨ i = 9 ∨ i = 10 ∨ i = 11 ∨ i = 12 ∨ i = 13 ∨ i = 14 ∨ i = 15 := by omega
    rcases this with rfl | rfl | rfl | rfl | rfl | rfl | rfl | rfl | rfl | rfl | rfl | rfl | rfl | rfl | rfl | rfl <;> rfl
  · rw [Array.getElem?_eq_none (by rw [kc_size]; exact h), Array.getElem?_eq_none (by simpa using h)]
theorem recC_eq (b c : Key) (v : Value) : recC b c v = kc b ++ kc c ++ #[v] := by simp [recC, kc]

theorem run_build_rec (b c : Key) (v : Value) (hv : v.cells = #[v]) (w : World) : (Instr.build 26 #[(0, .agg (kc b)), (1, .agg (kc c)), (2, v)]).run Try.prog w = .ok (.agg (recC b c v)) w := by
  rw [recC_eq, kc_lit b, kc_lit c]
  simp [Instr.build, Try.zeroValue26, run_underlying Try.underlying26, Try.sizeOf23, Try.sizeOf24, Instr.fill, show ∀ cs, (Value.agg cs).cells = cs from fun _ => rfl, hv]

set_option maxHeartbeats 400000 in
theorem check_c (k : Key) (w : World) :
    Calls Try.prog 54 #[.agg (kc k)] w fun e w' => e = .returned (.agg (kc (deriveK k 53 0))) ∧ Mem w w' [] := by
  have HM := Mem.start w
  go_enter Try.func54, Try.ntmps54
  go_wp2_with (first
    | ((with_reducible refine s_ 1 ?_); go_must (refine wl_box (dst := some 1) (cs := kc k) _ _ _ rfl rfl HM ?_; clear HM; intro b1 W HM))
    | ((with_reducible refine s_ 2 ?_); go_must (refine wl_alloc (dst := some 2) (cs := kc zeroKey) 23 _ Try.zeroValue23 kc_zero HM ?_; clear HM; intro b2 W HM))
    | ((with_reducible refine ld_ 23 ?_); go_must (refine wl_load_blk _ _ _ _ _ _ rfl HM (by repeat first | exact List.mem_cons_self .. | refine List.mem_cons_of_mem _ ?_) Try.underlying23 rfl (by rw [kc_size]; exact sz23) ?_))
    | ((with_reducible refine st_ 23 ?_); go_must ((refine wl_store_blk _ _ _ _ _ _ _ rfl rfl HM .here (by rw [kc_size]; exact sz23) (by simp only [kc_size]) (kc_one _) ?_); clear HM; intro W HM))
    | (go_at_call 110; go_must (((with_reducible refine (derive53_c _ _).mono ?_)); rintro e W ⟨rfl, HM'⟩; replace HM := HM.keep HM'.below; clear HM')))
  refine ret1 rfl (by (exact res_row HM rfl m0 Try.underlying23 rfl (by rw [kc_size]; exact sz23))) rfl ?_
  exact ⟨rfl, HM.base⟩

theorem row_cells {w : World} {B : Nat} {e : TypeId} {size n : Nat} {v : Value} {xs : List Value} (h : w.ownsRow B e size v n xs) : v.cells = #[v] := by
  rcases h.2 with ⟨rfl, _⟩ | ⟨g, cap, cur, rfl, _⟩ <;> rfl
theorem rd_cells {α : Type} {enc : α → List Value} {size : Nat} {w : World} {v : Value} {l : List α} (h : RdL enc size w v l) : v.cells = #[v] := by
  obtain ⟨A, c, rfl, _⟩ := h; rfl
theorem row_one {w : World} {B : Nat} {e : TypeId} {size n : Nat} {v : Value} {xs : List Value} (h : w.ownsRow B e size v n xs) : v.oneCell' = true := by
  rcases h.2 with ⟨rfl, _⟩ | ⟨g, cap, cur, rfl, _⟩ <;> rfl
theorem rd_one {α : Type} {enc : α → List Value} {size : Nat} {w : World} {v : Value} {l : List α} (h : RdL enc size w v l) : v.oneCell' = true := by
  obtain ⟨A, c, rfl, _⟩ := h; rfl
theorem recC_one (b c : Key) (v : Value) (h : v.oneCell' = true) : (recC b c v).all (·.oneCell') = true := by
  refine all_oneCell_toArray fun u hu => ?_
  simp only [List.mem_append, List.mem_singleton] at hu
  rcases hu with (hu | hu) | rfl
  · exact encK_one b u hu
  · exact encK_one c u hu
  · exact h
theorem rec_box (b c : Key) (v : Value) : (recC b c v).extract 0 16 = kc b := by
  apply Array.ext'; simp [recC, kc, encK_len, List.take_append]
theorem rec_check (b c : Key) (v : Value) : (recC b c v).extract 16 32 = kc c := by
  apply Array.ext'; simp [recC, kc, encK_len, List.take_append, List.drop_append]
theorem rec_data (b c : Key) (v : Value) : (recC b c v)[32]? = some v := by
  simp [recC, encK_len, List.getElem?_append]
theorem rec_zero (v : Value) : recC zeroKey zeroKey v = #[.int .u8 0, .int .u8 0, .int .u8 0, .int .u8 0, .int .u8 0, .int .u8 0, .int .u8 0, .int .u8 0, .int .u8 0, .int .u8 0, .int .u8 0, .int .u8 0, .int .u8 0, .int .u8 0, .int .u8 0, .int .u8 0,
    .int .u8 0, .int .u8 0, .int .u8 0, .int .u8 0, .int .u8 0, .int .u8 0, .int .u8 0, .int .u8 0, .int .u8 0, .int .u8 0, .int .u8 0, .int .u8 0, .int .u8 0, .int .u8 0, .int .u8 0, .int .u8 0, v] := by
  rfl

theorem run_build_rec0 (w : World) : (Instr.build 26 #[]).run Try.prog w = .ok (.agg (recC zeroKey zeroKey (.slice none 0 0))) w := by
  rw [rec_zero]
  simp [Instr.build, Try.zeroValue26, run_underlying Try.underlying26, Try.sizeOf23, Try.sizeOf24, Instr.fill, show ∀ cs, (Value.agg cs).cells = cs from fun _ => rfl]

set_option maxHeartbeats 400000 in
theorem record_no (k x : Key) (v : Value) (l : List UInt8) (w : World) (hR : RdL encB 1 w v l) (hl : 16384 < l.length) :
    Calls Try.prog 8 #[.agg (kc k), .agg (kc x), v] w fun e w' => e = .returned (.tuple #[.agg (recC zeroKey zeroKey (.slice none 0 0)), .int .i64 4]) ∧ Mem w w' [] := by
  have HM := Mem.start w
  go_enter Try.func8, Try.ntmps8
  go_wp2_with (first
    | ((with_reducible refine s_ 3 ?_); go_must (refine wl_box (dst := some 3) (cs := kc k) _ _ _ rfl rfl HM ?_; clear HM; intro b3 W HM))
    | ((with_reducible refine s_ 4 ?_); go_must (refine wl_box (dst := some 4) (cs := kc x) _ _ _ rfl rfl HM ?_; clear HM; intro b4 W HM))
    | ((with_reducible refine s_ 6 ?_); go_must (refine wl_alloc (dst := some 6) (cs := recC zeroKey zeroKey (.slice none 0 0)) 26 _ Try.zeroValue26 rfl HM ?_; clear HM; intro b6 W HM))
    | ((with_reducible refine s_ 18 ?_); go_must (refine wl_build (dst := some 18) _ _ _ _ (run_build_rec0) rfl ?_))
    | ((with_reducible refine ld_ 23 ?_); go_must (refine wl_load_blk _ _ _ _ _ _ rfl HM (by repeat first | exact List.mem_cons_self .. | refine List.mem_cons_of_mem _ ?_) Try.underlying23 rfl (by rw [kc_size]; exact sz23) ?_))
    | ((with_reducible refine st_ 26 ?_); go_must ((refine wl_store_blk _ _ _ _ _ _ _ rfl rfl HM .here (by rw [recC_size]; exact sz26) (by simp only [recC_size]) (recC_one _ _ _ (by first | assumption | rfl)) ?_); clear HM; intro W HM))
    | (go_at_call 52; go_must (((with_reducible refine (stream0_no _ _ _ _ (hR.mem HM) hl).mono ?_)); rintro e W ⟨rfl, HM'⟩; replace HM := HM.keep HM'.below; clear HM')))
  refine ret2 rfl (by (exact res_row HM rfl m0 Try.underlying26 rfl (by rw [recC_size]; exact sz26))) (res_tmp rfl) rfl ?_
  exact ⟨rfl, HM.base⟩
set_option maxHeartbeats 400000 in
theorem record_c (k x : Key) (v : Value) (l : List UInt8) (w : World) (hR : RdL encB 1 w v l) (hl : l.length ≤ 16384) :
    Calls Try.prog 8 #[.agg (kc k), .agg (kc x), v] w fun e w' => ∃ u, e = .returned (.tuple #[.agg (recC (encryptK k x) (deriveK x 53 0) u), .int .i64 0]) ∧ Mem w w' [.row u 5 1 l.length ((streamL x 0 l).flatMap encB)] := by
  have HM := Mem.start w
  go_enter Try.func8, Try.ntmps8
  go_wp2_with (first
    | ((with_reducible refine s_ 3 ?_); go_must (refine wl_box (dst := some 3) (cs := kc k) _ _ _ rfl rfl HM ?_; clear HM; intro b3 W HM))
    | ((with_reducible refine s_ 4 ?_); go_must (refine wl_box (dst := some 4) (cs := kc x) _ _ _ rfl rfl HM ?_; clear HM; intro b4 W HM))
    | ((with_reducible refine s_ 6 ?_); go_must (refine wl_alloc (dst := some 6) (cs := recC zeroKey zeroKey (.slice none 0 0)) 26 _ Try.zeroValue26 rfl HM ?_; clear HM; intro b6 W HM))
    | ((with_reducible refine ld_ 23 ?_); go_must (refine wl_load_blk _ _ _ _ _ _ rfl HM (by repeat first | exact List.mem_cons_self .. | refine List.mem_cons_of_mem _ ?_) Try.underlying23 rfl (by rw [kc_size]; exact sz23) ?_))
    | (go_at_call 52; go_must (((with_reducible refine (stream0_c x _ _ _ (hR.mem HM) hl).mono ?_)); rintro e W ⟨u, rfl, HM'⟩; replace HM := HM.join HM'; clear HM'; simp only [List.cons_append, List.nil_append] at HM)))
  have hv := row_cells (HM.row m0)
  have hv1 := row_one (HM.row m0)
  replace HM := HM.drew
  refine wp_region_mixN (fun W => Held w W [.blk b4 (kc x) 23, .blk b3 (kc k) 23]) (fun W => Held w W [.blk b4 (kc x) 23, .blk b3 (kc k) 23]) (.cons (2, 0) (.cons (2, 1) (.cons (2, 3) (.cons (2, 5) (.cons (0, 2) (.cons (0, 4) (.cons (2, 6) (.cons (0, 7) (.cons (2, 8) .nil))))))))) [] (by kernel_rfl) (by kernel_rfl) (by kernel_rfl) (fun W h => Held.weak h (by simp)) (HM.held (by simp)) ?_
  revert HM; generalize World.drew _ = W; intro HM
  have HS1 : Held w W [.blk b4 (kc x) 23, .blk b3 (kc k) 23] := HM.held (by simp)
  have HS2 : Held w W [.blk b4 (kc x) 23, .blk b3 (kc k) 23] := HM.held (by simp)
  refine wm_q2 (i := 0) (some 20) rfl rfl rfl HS2 (fun W HS => (by ((refine ry_load_blk _ _ _ _ _ _ HS ?_ m1 Try.underlying23 rfl (by rw [kc_size]; exact sz23); rfl)))) ?_
  simp only [Act.put, List.getElem_toArray, List.getElem_cons_succ, List.getElem_cons_zero, List.setIfInBounds_toArray, List.set_cons_succ, List.set_cons_zero]
  refine wm_q2 (i := 1) (some 21) rfl rfl rfl HS2 (fun W HS => (by ((refine ry_load_blk _ _ _ _ _ _ HS ?_ m0 Try.underlying23 rfl (by rw [kc_size]; exact sz23); rfl)))) ?_
  simp only [Act.put, List.getElem_toArray, List.getElem_cons_succ, List.getElem_cons_zero, List.setIfInBounds_toArray, List.set_cons_succ, List.set_cons_zero]
  refine wm_q2 (i := 3) (some 23) rfl rfl rfl HS2 (fun W HS => (by ((refine ry_load_blk _ _ _ _ _ _ HS ?_ m0 Try.underlying23 rfl (by rw [kc_size]; exact sz23); rfl)))) ?_
  simp only [Act.put, List.getElem_toArray, List.getElem_cons_succ, List.getElem_cons_zero, List.setIfInBounds_toArray, List.set_cons_succ, List.set_cons_zero]
  refine wm_q2 (i := 5) (v := ?v4_4) (some 25) rfl rfl rfl HS2 (fun W HS => ?y4_4) ?_
  case y4_4 => (go_simp; try with_reducible rfl)
  simp only [Act.put, List.getElem_toArray, List.getElem_cons_succ, List.getElem_cons_zero, List.setIfInBounds_toArray, List.set_cons_succ, List.set_cons_zero]
  refine wm_e0 (i := 2) rfl ?_
  go_wp2_with (first
    | (go_at_call 53; go_must (((with_reducible refine (encrypt_c _ _ _).mono ?_)); rintro e W ⟨rfl, HM'⟩; replace HM := HM.keep HM'.below; clear HM')))
  refine ⟨HM.held (by simp), ?_⟩
  clear HS1 HS2
  have HS1 : Held w W [.blk b4 (kc x) 23, .blk b3 (kc k) 23] := HM.held (by simp)
  have HS2 : Held w W [.blk b4 (kc x) 23, .blk b3 (kc k) 23] := HM.held (by simp)
  refine wm_e0 (i := 4) rfl ?_
  go_wp2_with (first
    | (go_at_call 54; go_must (((with_reducible refine (check_c _ _).mono ?_)); rintro e W ⟨rfl, HM'⟩; replace HM := HM.keep HM'.below; clear HM')))
  refine ⟨HM.held (by simp), ?_⟩
  clear HS1 HS2
  have HS1 : Held w W [.blk b4 (kc x) 23, .blk b3 (kc k) 23] := HM.held (by simp)
  have HS2 : Held w W [.blk b4 (kc x) 23, .blk b3 (kc k) 23] := HM.held (by simp)
  refine wm_q2 (i := 6) (some 26) rfl rfl rfl HS2 (fun W HS => ry_build _ _ _ _ (run_build_rec _ _ _ hv) rfl) ?_
  simp only [Act.put, List.getElem_toArray, List.getElem_cons_succ, List.getElem_cons_zero, List.setIfInBounds_toArray, List.set_cons_succ, List.set_cons_zero]
  refine wm_e0 (i := 7) rfl ?_
  go_wp2_with (first
    | ((with_reducible refine st_ 26 ?_); go_must ((refine wl_store_blk _ _ _ _ _ _ _ rfl rfl HM (.there .here) (by rw [recC_size]; exact sz26) (by simp only [recC_size]) (recC_one _ _ _ (by first | assumption | rfl)) ?_); clear HM; intro W HM)))
  refine ⟨HM.held (by simp), ?_⟩
  clear HS1 HS2
  have HS1 : Held w W [.blk b4 (kc x) 23, .blk b3 (kc k) 23] := HM.held (by simp)
  have HS2 : Held w W [.blk b4 (kc x) 23, .blk b3 (kc k) 23] := HM.held (by simp)
  refine wm_q2 (i := 8) (v := ?v4_6) (some 7) rfl rfl rfl HS2 (fun W HS => ?y4_6) ?_
  case y4_6 => (go_simp; try with_reducible rfl)
  simp only [Act.put, List.getElem_toArray, List.getElem_cons_succ, List.getElem_cons_zero, List.setIfInBounds_toArray, List.set_cons_succ, List.set_cons_zero]
  refine wm_nilN ?_
  clear HS1 HS2
  go_wp2_with (fail)
  refine ret2 rfl (by (exact res_row HM rfl m1 Try.underlying26 rfl (by rw [recC_size]; exact sz26))) (res_tmp rfl) rfl ?_
  exact ⟨_, rfl, HM.only m0⟩
end Go.Proofs.Ythdekionepfmdaa
