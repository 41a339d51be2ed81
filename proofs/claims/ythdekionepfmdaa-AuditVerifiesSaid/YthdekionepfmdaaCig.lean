/- Recordings, last: playing; the reference's recordings. -/
import Derived.Test.YthdekionepfmdaaCif
set_option linter.unusedVariables false
set_option linter.unusedSimpArgs false
set_option maxRecDepth 8000
namespace Go.Proofs.Ythdekionepfmdaa
open Go.RowKit

/-! ### Bytes as a string -/
def strB (l : List UInt8) : ByteArray := l.foldl (fun r b => r.push b) ByteArray.empty
theorem run_str {P : Program} {src dst e : TypeId} (hs : P.underlying src = some (.slice e)) (he : P.underlying e = some (.int .u8)) (hd : P.underlying dst = some .string) {W : World} {v : Value} {l : List UInt8} (hR : RdL encB 1 W v l) :
    (convert src dst v).run P W = .ok (.string (strB l)) W := by
  obtain ⟨A, c, rfl, hc, hm, hr⟩ := hR
  rw [run_convert_bytes_string W src dst e A l.length c hs he hd]
  have hfold : ∀ (l : List UInt8) (s : ByteArray), (l.map (fun x => (x.toNat : Int))).foldl (fun r n => r.push (UInt8.ofNat n.toNat)) s = l.foldl (fun r b => r.push b) s := by
    intro l; induction l with
    | nil => intro s; rfl
    | cons x l ih => intro s; simp only [List.map_cons, List.foldl_cons, Int.toNat_natCast, UInt8.ofNat_toNat]; exact ih _
  rcases l with _ | ⟨x, l⟩
  · cases A with
    | none => simp [Conv.bytesToString, strB]
    | some ad =>
      have h := run_bytesToString (P := P) W ad 0 c [] (by simp [loadCells, loadCellsFrom])
      simpa [strB] using h
  · obtain ⟨b, o, rfl, hra⟩ := hr (by simp)
    have h1 := run_loadCells_list (P := P) W ⟨b, o, none⟩ ((x :: l).flatMap encB) (fun j v hv => by rw [Addr.add_mid]; exact hra j v hv)
    rw [flatMap_length encB_len, Nat.mul_one] at h1
    have h2 : ((x :: l).flatMap encB).toArray = (((x :: l).map (fun x => (x.toNat : Int))).map (Value.int .u8)).toArray := by rw [flatB]; simp
    rw [h2] at h1
    have h := run_bytesToString (P := P) W ⟨b, o, none⟩ (x :: l).length c _ h1
    rw [hfold] at h
    exact h
section
variable {P : Program} {ops : Array Oper} {rest : List Oper} {a : Act} {Q : Exit → Act → World → Prop} {w0 W : World} {L : List It} {dst : Option Tmp} {tt : TypeId} {ps : String} {af : Array Edge}
theorem ry_str {gd : Option (Nat × Bool)} (src ds e : TypeId) (x : Operand) (v : Value) (l : List UInt8) (hs : P.underlying src = some (.slice e)) (he : P.underlying e = some (.int .u8)) (hd : P.underlying ds = some .string) (hR : RdL encB 1 W v l) (hx : a.eval x = v) :
    (execOp a.eval (Oper.mk dst (.convert src ds x) tt ps af gd)).run P W = .ok (.value (.string (strB l))) W := by
  unfold execOp
  simp only [hx, Sem.run_bind, run_str hs he hd hR, Result.andThen_ok, Sem.run_pure]
theorem wl_str (src ds e : TypeId) (x : Operand) (v : Value) (l : List UInt8) (hs : P.underlying src = some (.slice e)) (he : P.underlying e = some (.int .u8)) (hd : P.underlying ds = some .string) (hR : RdL encB 1 W v l) (hx : a.eval x = v)
    (hk : wpList P ops Q rest (a.put dst (.string (strB l))) W) : wpList P ops Q (Oper.mk dst (.convert src ds x) tt ps af none :: rest) a W := by
  refine wpList_plain rfl fun K hK => ?_
  have := ry_str (P := P) (a := a) (W := W) (dst := dst) (tt := tt) (ps := ps) (af := af) (gd := none) src ds e x v l hs he hd hR hx
  unfold Oper.wp
  rw [this]
  exact hK _ _ hk
end

section
attribute [local go_sem] keyEqI
set_option maxHeartbeats 400000 in
theorem same_c (bx ck : Key) (v v' : Value) (l : List UInt8) (w : World) (hR : RdL encB 1 w v l) (hR' : RdL encB 1 w v' l) :
    Calls Try.prog 10 #[.agg (recC bx ck v), .agg (recC bx ck v')] w fun e w' => e = .returned (.bool true) ∧ Mem w w' [] := by
  have HM := Mem.start w
  have hv1 := rd_one hR
  have hv2 := rd_one hR'
  go_enter Try.func10, Try.ntmps10
  go_wp2_with (first
    | ((with_reducible refine gd_ _ ?_); refine wl_guard (by rfl) ?_)
    | ((with_reducible refine s_ 2 ?_); go_must (refine wl_box (dst := some 2) (cs := recC bx ck v) _ _ _ rfl rfl HM ?_; clear HM; intro b2 W HM))
    | ((with_reducible refine s_ 3 ?_); go_must (refine wl_box (dst := some 3) (cs := recC bx ck v') _ _ _ rfl rfl HM ?_; clear HM; intro b3 W HM))
    | ((with_reducible refine s_ 6 ?_); go_must (refine wl_load_sub (dst := some 6) (cs' := kc bx) _ _ _ _ _ _ _ _ rfl HM m1 Try.underlying23 rfl sz23 (by exact rec_box _ _ _) (by simp [kc_size]) ?_))
    | ((with_reducible refine s_ 8 ?_); go_must (refine wl_load_sub (dst := some 8) (cs' := kc bx) _ _ _ _ _ _ _ _ rfl HM m0 Try.underlying23 rfl sz23 (by exact rec_box _ _ _) (by simp [kc_size]) ?_))
    | ((with_reducible refine s_ 12 ?_); go_must (refine wl_load_sub (dst := some 12) (cs' := kc ck) _ _ _ _ _ _ _ _ rfl HM m1 Try.underlying23 rfl sz23 (by exact rec_check _ _ _) (by simp [kc_size]) ?_))
    | ((with_reducible refine s_ 14 ?_); go_must (refine wl_load_sub (dst := some 14) (cs' := kc ck) _ _ _ _ _ _ _ _ rfl HM m0 Try.underlying23 rfl sz23 (by exact rec_check _ _ _) (by simp [kc_size]) ?_))
    | ((with_reducible refine s_ 19 ?_); go_must ((refine wl_load_cell (dst := some 19) (v := v) _ _ _ _ _ _ _ rfl HM m1 (rec_data _ _ _) Try.underlying24 rfl ?_)))
    | ((with_reducible refine s_ 20 ?_); go_must ((refine wl_str (dst := some 20) _ _ _ _ _ l Try.underlying24 Try.underlying5 Try.underlying9 (hR.mem HM) rfl ?_)))
    | ((with_reducible refine s_ 22 ?_); go_must ((refine wl_load_cell (dst := some 22) (v := v') _ _ _ _ _ _ _ rfl HM m0 (rec_data _ _ _) Try.underlying24 rfl ?_)))
    | ((with_reducible refine s_ 23 ?_); go_must ((refine wl_str (dst := some 23) _ _ _ _ _ l Try.underlying24 Try.underlying5 Try.underlying9 (hR'.mem HM) rfl ?_))))
  refine ret1 rfl (res_tmp rfl) rfl ?_
  exact ⟨rfl, HM.base⟩
end

set_option maxHeartbeats 400000 in
theorem play_many (k bx ck : Key) (v : Value) (l : List UInt8) (w : World) (hR : RdL encB 1 w v l) (hl : 16384 < l.length) :
    Calls Try.prog 13 #[.agg (kc k), .agg (recC bx ck v)] w fun e w' => e = .returned (.tuple #[.slice none 0 0, .int .i64 4]) ∧ Mem w w' [] := by
  have HM := Mem.start w
  have hv1 := rd_one hR
  have hl0 : (16384 : Int) < (l.length : Int) := by omega
  go_enter Try.func13, Try.ntmps13
  go_wp2_with (first
    | ((with_reducible refine s_ 2 ?_); go_must (refine wl_box (dst := some 2) (cs := kc k) _ _ _ rfl rfl HM ?_; clear HM; intro b2 W HM))
    | ((with_reducible refine s_ 3 ?_); go_must (refine wl_box (dst := some 3) (cs := recC bx ck v) _ _ _ rfl rfl HM ?_; clear HM; intro b3 W HM))
    | ((with_reducible refine s_ 9 ?_); go_must ((refine wl_load_cell (dst := some 9) (v := v) _ _ _ _ _ _ _ rfl HM m0 (rec_data _ _ _) Try.underlying24 rfl ?_)))
    | ((with_reducible refine s_ 10 ?_); go_must ((refine wl_len (dst := some 10) _ _ _ _ 5 Try.underlying24 rfl (hR.mem HM) ?_))))
  refine ret2 rfl (res_tmp rfl) (res_tmp rfl) rfl ?_
  exact ⟨rfl, HM.base⟩
set_option maxHeartbeats 400000 in
theorem play_no (k bx ck : Key) (v : Value) (l : List UInt8) (w : World) (hR : RdL encB 1 w v l) (hl : l.length ≤ 16384) (h : deriveK (decryptK k bx) 53 0 ≠ ck) :
    Calls Try.prog 13 #[.agg (kc k), .agg (recC bx ck v)] w fun e w' => e = .returned (.tuple #[.slice none 0 0, .int .i64 53]) ∧ Mem w w' [] := by
  have HM := Mem.start w
  have hv1 := rd_one hR
  have hl0 : ¬ (16384 : Int) < (l.length : Int) := by omega
  go_enter Try.func13, Try.ntmps13
  go_wp2_with (first
    | ((with_reducible refine s_ 2 ?_); go_must (refine wl_box (dst := some 2) (cs := kc k) _ _ _ rfl rfl HM ?_; clear HM; intro b2 W HM))
    | ((with_reducible refine s_ 3 ?_); go_must (refine wl_box (dst := some 3) (cs := recC bx ck v) _ _ _ rfl rfl HM ?_; clear HM; intro b3 W HM))
    | ((with_reducible refine s_ 9 ?_); go_must ((refine wl_load_cell (dst := some 9) (v := v) _ _ _ _ _ _ _ rfl HM m0 (rec_data _ _ _) Try.underlying24 rfl ?_)))
    | ((with_reducible refine s_ 10 ?_); go_must ((refine wl_len (dst := some 10) _ _ _ _ 5 Try.underlying24 rfl (hR.mem HM) ?_)))
    | ((with_reducible refine s_ 6 ?_); go_must (refine wl_alloc (dst := some 6) (cs := kc zeroKey) 23 _ Try.zeroValue23 kc_zero HM ?_; clear HM; intro b6 W HM))
    | ((with_reducible refine ld_ 23 ?_); go_must (refine wl_load_blk _ _ _ _ _ _ rfl HM (by repeat first | exact List.mem_cons_self .. | refine List.mem_cons_of_mem _ ?_) Try.underlying23 rfl (by rw [kc_size]; exact sz23) ?_))
    | ((with_reducible refine ld_ 26 ?_); go_must (refine wl_load_blk _ _ _ _ _ _ rfl HM (by repeat first | exact List.mem_cons_self .. | refine List.mem_cons_of_mem _ ?_) Try.underlying26 rfl (by rw [recC_size]; exact sz26) ?_))
    | ((with_reducible refine st_ 23 ?_); go_must ((refine wl_store_blk _ _ _ _ _ _ _ rfl rfl HM .here (by rw [kc_size]; exact sz23) (by simp only [kc_size]) (kc_one _) ?_); clear HM; intro W HM))
    | (go_at_call 58; go_must (((with_reducible refine (content_no _ _ _ _ hv1 h _).mono ?_)); rintro e W ⟨rfl, HM'⟩; replace HM := HM.keep HM'.below; clear HM')))
  refine ret2 rfl (res_tmp rfl) (res_tmp rfl) rfl ?_
  exact ⟨rfl, HM.base⟩
set_option maxHeartbeats 400000 in
theorem play_c (k bx ck : Key) (v : Value) (l : List UInt8) (w : World) (hR : RdL encB 1 w v l) (hl : l.length ≤ 16384) (h : deriveK (decryptK k bx) 53 0 = ck) :
    Calls Try.prog 13 #[.agg (kc k), .agg (recC bx ck v)] w fun e w' => ∃ u, e = .returned (.tuple #[u, .int .i64 0]) ∧ Mem w w' [.row u 5 1 l.length ((streamL (decryptK k bx) 0 l).flatMap encB)] := by
  have HM := Mem.start w
  have hv1 := rd_one hR
  have hl0 : ¬ (16384 : Int) < (l.length : Int) := by omega
  go_enter Try.func13, Try.ntmps13
  go_wp2_with (first
    | ((with_reducible refine s_ 2 ?_); go_must (refine wl_box (dst := some 2) (cs := kc k) _ _ _ rfl rfl HM ?_; clear HM; intro b2 W HM))
    | ((with_reducible refine s_ 3 ?_); go_must (refine wl_box (dst := some 3) (cs := recC bx ck v) _ _ _ rfl rfl HM ?_; clear HM; intro b3 W HM))
    | ((with_reducible refine s_ 9 ?_); go_must ((refine wl_load_cell (dst := some 9) (v := v) _ _ _ _ _ _ _ rfl HM m0 (rec_data _ _ _) Try.underlying24 rfl ?_)))
    | ((with_reducible refine s_ 10 ?_); go_must ((refine wl_len (dst := some 10) _ _ _ _ 5 Try.underlying24 rfl (hR.mem HM) ?_)))
    | ((with_reducible refine s_ 6 ?_); go_must (refine wl_alloc (dst := some 6) (cs := kc zeroKey) 23 _ Try.zeroValue23 kc_zero HM ?_; clear HM; intro b6 W HM))
    | ((with_reducible refine s_ 23 ?_); go_must ((refine wl_load_cell (dst := some 23) (v := v) _ _ _ _ _ _ _ rfl HM m1 (rec_data _ _ _) Try.underlying24 rfl ?_)))
    | ((with_reducible refine ld_ 23 ?_); go_must (refine wl_load_blk _ _ _ _ _ _ rfl HM (by repeat first | exact List.mem_cons_self .. | refine List.mem_cons_of_mem _ ?_) Try.underlying23 rfl (by rw [kc_size]; exact sz23) ?_))
    | ((with_reducible refine ld_ 26 ?_); go_must (refine wl_load_blk _ _ _ _ _ _ rfl HM (by repeat first | exact List.mem_cons_self .. | refine List.mem_cons_of_mem _ ?_) Try.underlying26 rfl (by rw [recC_size]; exact sz26) ?_))
    | ((with_reducible refine st_ 23 ?_); go_must ((refine wl_store_blk _ _ _ _ _ _ _ rfl rfl HM .here (by rw [kc_size]; exact sz23) (by simp only [kc_size]) (kc_one _) ?_); clear HM; intro W HM))
    | (go_at_call 58; go_must (((with_reducible refine (content_ok _ _ _ _ hv1 h _).mono ?_)); rintro e W ⟨rfl, HM'⟩; replace HM := HM.keep HM'.below; clear HM'))
    | (go_at_call 52; go_must (((with_reducible refine (stream0_c _ _ _ _ (hR.mem HM) hl).mono ?_)); rintro e W ⟨u, rfl, HM'⟩; replace HM := HM.join HM'; clear HM'; simp only [List.cons_append, List.nil_append] at HM)))
  refine ret2 rfl (res_tmp rfl) (res_tmp rfl) rfl ?_
  exact ⟨_, rfl, HM.only m0⟩

theorem rderive53_c (k : Key) (w : World) : Calls Try.prog 57 #[.agg (kc k), .int .u8 53, .int .u64 0] w fun e w' => e = .returned (.agg (kc (deriveK k 53 0))) ∧ Mem w w' [] := rderive_c k 53 0 w
theorem rstream0_no (k : Key) (v : Value) (l : List UInt8) (w : World) (hR : RdL encB 1 w v l) (hl : 16384 < l.length) :
    Calls Try.prog 55 #[.agg (kc k), .int .u64 0, v] w fun e w' => e = .returned (.tuple #[.slice none 0 0, .int .i64 4]) ∧ Mem w w' [] := rstream_no k 0 v l w hR hl
theorem rstream0_c (k : Key) (v : Value) (l : List UInt8) (w : World) (hR : RdL encB 1 w v l) (hl : l.length ≤ 16384) :
    Calls Try.prog 55 #[.agg (kc k), .int .u64 0, v] w fun e w' => ∃ u, e = .returned (.tuple #[u, .int .i64 0]) ∧ Mem w w' [.row u 5 1 l.length ((streamL k 0 l).flatMap encB)] := rstream_c k 0 v l w hR hl

set_option maxHeartbeats 400000 in
theorem rrecord_no (k x : Key) (v : Value) (l : List UInt8) (w : World) (hR : RdL encB 1 w v l) (hl : 16384 < l.length) :
    Calls Try.prog 9 #[.agg (kc k), .agg (kc x), v] w fun e w' => e = .returned (.tuple #[.agg (recC zeroKey zeroKey (.slice none 0 0)), .int .i64 4]) ∧ Mem w w' [] := by
  have HM := Mem.start w
  go_enter Try.func9, Try.ntmps9
  go_wp2_with (first
    | ((with_reducible refine s_ 3 ?_); go_must (refine wl_box (dst := some 3) (cs := kc k) _ _ _ rfl rfl HM ?_; clear HM; intro b3 W HM))
    | ((with_reducible refine s_ 4 ?_); go_must (refine wl_box (dst := some 4) (cs := kc x) _ _ _ rfl rfl HM ?_; clear HM; intro b4 W HM))
    | ((with_reducible refine s_ 6 ?_); go_must (refine wl_alloc (dst := some 6) (cs := recC zeroKey zeroKey (.slice none 0 0)) 26 _ Try.zeroValue26 rfl HM ?_; clear HM; intro b6 W HM))
    | ((with_reducible refine s_ 18 ?_); go_must (refine wl_build (dst := some 18) _ _ _ _ (run_build_rec0) rfl ?_))
    | ((with_reducible refine ld_ 23 ?_); go_must (refine wl_load_blk _ _ _ _ _ _ rfl HM (by repeat first | exact List.mem_cons_self .. | refine List.mem_cons_of_mem _ ?_) Try.underlying23 rfl (by rw [kc_size]; exact sz23) ?_))
    | ((with_reducible refine st_ 26 ?_); go_must ((refine wl_store_blk _ _ _ _ _ _ _ rfl rfl HM .here (by rw [recC_size]; exact sz26) (by simp only [recC_size]) (recC_one _ _ _ (by first | assumption | rfl)) ?_); clear HM; intro W HM))
    | (go_at_call 55; go_must (((with_reducible refine (rstream0_no _ _ _ _ (hR.mem HM) hl).mono ?_)); rintro e W ⟨rfl, HM'⟩; replace HM := HM.keep HM'.below; clear HM')))
  refine ret2 rfl (by (exact res_row HM rfl m0 Try.underlying26 rfl (by rw [recC_size]; exact sz26))) (res_tmp rfl) rfl ?_
  exact ⟨rfl, HM.base⟩

set_option maxHeartbeats 400000 in
theorem rrecord_c (k x : Key) (v : Value) (l : List UInt8) (w : World) (hR : RdL encB 1 w v l) (hl : l.length ≤ 16384) :
    Calls Try.prog 9 #[.agg (kc k), .agg (kc x), v] w fun e w' => ∃ u, e = .returned (.tuple #[.agg (recC (encryptK k x) (deriveK x 53 0) u), .int .i64 0]) ∧ Mem w w' [.row u 5 1 l.length ((streamL x 0 l).flatMap encB)] := by
  have HM := Mem.start w
  go_enter Try.func9, Try.ntmps9
  go_wp2_with (first
    | ((with_reducible refine s_ 3 ?_); go_must (refine wl_box (dst := some 3) (cs := kc k) _ _ _ rfl rfl HM ?_; clear HM; intro b3 W HM))
    | ((with_reducible refine s_ 4 ?_); go_must (refine wl_box (dst := some 4) (cs := kc x) _ _ _ rfl rfl HM ?_; clear HM; intro b4 W HM))
    | ((with_reducible refine s_ 6 ?_); go_must (refine wl_alloc (dst := some 6) (cs := recC zeroKey zeroKey (.slice none 0 0)) 26 _ Try.zeroValue26 rfl HM ?_; clear HM; intro b6 W HM))
    | ((with_reducible refine ld_ 23 ?_); go_must (refine wl_load_blk _ _ _ _ _ _ rfl HM (by repeat first | exact List.mem_cons_self .. | refine List.mem_cons_of_mem _ ?_) Try.underlying23 rfl (by rw [kc_size]; exact sz23) ?_))
    | (go_at_call 55; go_must (((with_reducible refine (rstream0_c x _ _ _ (hR.mem HM) hl).mono ?_)); rintro e W ⟨u, rfl, HM'⟩; replace HM := HM.join HM'; clear HM'; simp only [List.cons_append, List.nil_append] at HM)))
  have hv := row_cells (HM.row m0)
  have hv1 := row_one (HM.row m0)
  replace HM := HM.drew
  refine wp_region_mixN (fun W => Held w W [.blk b4 (kc x) 23, .blk b3 (kc k) 23]) (fun W => Held w W [.blk b4 (kc x) 23, .blk b3 (kc k) 23]) (.cons (2, 0) (.cons (2, 1) (.cons (2, 3) (.cons (2, 5) (.cons (0, 2) (.cons (0, 4) (.cons (2, 6) (.cons (0, 7) (.cons (2, 8) .nil))))))))) [] (by kernel_rfl) (by kernel_rfl) (by kernel_rfl) (fun W h => Held.weak h (by simp)) (HM.held (by simp)) ?_
  revert HM; generalize World.drew _ = W; intro HM
  have HS1 : Held w W [.blk b4 (kc x) 23, .blk b3 (kc k) 23] := HM.held (by simp)
  have HS2 : Held w W [.blk b4 (kc x) 23, .blk b3 (kc k) 23] := HM.held (by simp)
  refine wm_q2 (i := 0) (some 19) rfl rfl rfl HS2 (fun W HS => (by ((refine ry_load_blk _ _ _ _ _ _ HS ?_ m1 Try.underlying23 rfl (by rw [kc_size]; exact sz23); rfl)))) ?_
  simp only [Act.put, List.getElem_toArray, List.getElem_cons_succ, List.getElem_cons_zero, List.setIfInBounds_toArray, List.set_cons_succ, List.set_cons_zero]
  refine wm_q2 (i := 1) (some 20) rfl rfl rfl HS2 (fun W HS => (by ((refine ry_load_blk _ _ _ _ _ _ HS ?_ m0 Try.underlying23 rfl (by rw [kc_size]; exact sz23); rfl)))) ?_
  simp only [Act.put, List.getElem_toArray, List.getElem_cons_succ, List.getElem_cons_zero, List.setIfInBounds_toArray, List.set_cons_succ, List.set_cons_zero]
  refine wm_q2 (i := 3) (some 22) rfl rfl rfl HS2 (fun W HS => (by ((refine ry_load_blk _ _ _ _ _ _ HS ?_ m0 Try.underlying23 rfl (by rw [kc_size]; exact sz23); rfl)))) ?_
  simp only [Act.put, List.getElem_toArray, List.getElem_cons_succ, List.getElem_cons_zero, List.setIfInBounds_toArray, List.set_cons_succ, List.set_cons_zero]
  refine wm_q2 (i := 5) (v := ?v4_4) (some 24) rfl rfl rfl HS2 (fun W HS => ?y4_4) ?_
  case y4_4 => (go_simp; try with_reducible rfl)
  simp only [Act.put, List.getElem_toArray, List.getElem_cons_succ, List.getElem_cons_zero, List.setIfInBounds_toArray, List.set_cons_succ, List.set_cons_zero]
  refine wm_e0 (i := 2) rfl ?_
  go_wp2_with (first
    | (go_at_call 56; go_must (((with_reducible refine (rencrypt_c _ _ _).mono ?_)); rintro e W ⟨rfl, HM'⟩; replace HM := HM.keep HM'.below; clear HM')))
  refine ⟨HM.held (by simp), ?_⟩
  clear HS1 HS2
  have HS1 : Held w W [.blk b4 (kc x) 23, .blk b3 (kc k) 23] := HM.held (by simp)
  have HS2 : Held w W [.blk b4 (kc x) 23, .blk b3 (kc k) 23] := HM.held (by simp)
  refine wm_e0 (i := 4) rfl ?_
  go_wp2_with (first
    | (go_at_call 57; go_must (((with_reducible refine (rderive53_c _ _).mono ?_)); rintro e W ⟨rfl, HM'⟩; replace HM := HM.keep HM'.below; clear HM')))
  refine ⟨HM.held (by simp), ?_⟩
  clear HS1 HS2
  have HS1 : Held w W [.blk b4 (kc x) 23, .blk b3 (kc k) 23] := HM.held (by simp)
  have HS2 : Held w W [.blk b4 (kc x) 23, .blk b3 (kc k) 23] := HM.held (by simp)
  refine wm_q2 (i := 6) (some 25) rfl rfl rfl HS2 (fun W HS => ry_build _ _ _ _ (run_build_rec _ _ _ hv) rfl) ?_
  simp only [Act.put, List.getElem_toArray, List.getElem_cons_succ, List.getElem_cons_zero, List.setIfInBounds_toArray, List.set_cons_succ, List.set_cons_zero]
  refine wm_e0 (i := 7) rfl ?_
  go_wp2_with (first
    | ((with_reducible refine st_ 26 ?_); go_must ((refine wl_store_blk _ _ _ _ _ _ _ rfl rfl HM (.there .here) (by rw [recC_size]; exact sz26) (by simp only [recC_size]) (recC_one _ _ _ (by first | assumption | rfl)) ?_); clear HM; intro W HM)))
  refine ⟨HM.held (by simp), ?_⟩
  clear HS1 HS2
  have HS1 : Held w W [.blk b4 (kc x) 23, .blk b3 (kc k) 23] := HM.held (by simp)
  have HS2 : Held w W [.blk b4 (kc x) 23, .blk b3 (kc k) 23] := HM.held (by simp)
  refine wm_q2 (i := 8) (v := ?v4_6) (some 7) rfl rfl rfl HS2 (fun W HS => ?y4_6) ?_
  case y4_6 => (go_simp; try with_reducible rfl)
  simp only [Act.put, List.getElem_toArray, List.getElem_cons_succ, List.getElem_cons_zero, List.setIfInBounds_toArray, List.set_cons_succ, List.set_cons_zero]
  refine wm_nilN ?_
  clear HS1 HS2
  go_wp2_with (fail)
  refine ret2 rfl (by (exact res_row HM rfl m1 Try.underlying26 rfl (by rw [recC_size]; exact sz26))) (res_tmp rfl) rfl ?_
  exact ⟨_, rfl, HM.only m0⟩

section
attribute [local go_sem] keyEqI
set_option maxHeartbeats 400000 in
theorem rcontent_c (k bx ck : Key) (v : Value) (hv1 : v.oneCell' = true) (w : World) :
    Calls Try.prog 60 #[.agg (kc k), .agg (recC bx ck v)] w fun e w' => e = .returned (.tuple #[.agg (kc (decryptK k bx)), .bool (decide (deriveK (decryptK k bx) 53 0 = ck))]) ∧ Mem w w' [] := by
  have HM := Mem.start w
  go_enter Try.func60, Try.ntmps60
  go_wp2_with (first
    | ((with_reducible refine s_ 2 ?_); go_must (refine wl_box (dst := some 2) (cs := kc k) _ _ _ rfl rfl HM ?_; clear HM; intro b2 W HM))
    | ((with_reducible refine s_ 3 ?_); go_must (refine wl_box (dst := some 3) (cs := recC bx ck v) _ _ _ rfl rfl HM ?_; clear HM; intro b3 W HM))
    | ((with_reducible refine s_ 4 ?_); go_must (refine wl_alloc (dst := some 4) (cs := kc zeroKey) 23 _ Try.zeroValue23 kc_zero HM ?_; clear HM; intro b4 W HM))
    | ((with_reducible refine s_ 9 ?_); go_must (refine wl_load_sub (dst := some 9) (cs' := kc bx) _ _ _ _ _ _ _ _ rfl HM m1 Try.underlying23 rfl sz23 (by exact rec_box _ _ _) (by simp [kc_size]) ?_))
    | ((with_reducible refine s_ 6 ?_); go_must (refine wl_alloc (dst := some 6) (cs := kc zeroKey) 23 _ Try.zeroValue23 kc_zero HM ?_; clear HM; intro b6 W HM))
    | ((with_reducible refine ld_ 23 ?_); go_must (refine wl_load_blk _ _ _ _ _ _ rfl HM (by repeat first | exact List.mem_cons_self .. | refine List.mem_cons_of_mem _ ?_) Try.underlying23 rfl (by rw [kc_size]; exact sz23) ?_))
    | ((with_reducible refine st_ 23 ?_); go_must ((refine wl_store_blk _ _ _ _ _ _ _ rfl rfl HM .here (by rw [kc_size]; exact sz23) (by simp only [kc_size]) (kc_one _) ?_); clear HM; intro W HM))
    | (go_at_call 121; go_must (((with_reducible refine (rdecrypt_c _ _ _).mono ?_)); rintro e W ⟨rfl, HM'⟩; replace HM := HM.keep HM'.below; clear HM')))
  replace HM := HM.drew
  refine wp_region_mixN (fun W => Held w W [.blk b6 (kc (decryptK k bx)) 23, .blk b3 (recC bx ck v) 26]) (fun W => Held w W [.blk b6 (kc (decryptK k bx)) 23, .blk b3 (recC bx ck v) 26]) (.cons (2, 0) (.cons (2, 1) (.cons (2, 3) (.cons (2, 4) (.cons (0, 2) (.cons (2, 5) (.cons (0, 6) (.cons (2, 7) .nil)))))))) [] (by kernel_rfl) (by kernel_rfl) (by kernel_rfl) (fun W h => Held.weak h (by simp)) (HM.held (by simp)) ?_
  revert HM; generalize World.drew _ = W; intro HM
  have HS1 : Held w W [.blk b6 (kc (decryptK k bx)) 23, .blk b3 (recC bx ck v) 26] := HM.held (by simp)
  have HS2 : Held w W [.blk b6 (kc (decryptK k bx)) 23, .blk b3 (recC bx ck v) 26] := HM.held (by simp)
  refine wm_q2 (i := 0) (some 11) rfl rfl rfl HS2 (fun W HS => (by ((refine ry_load_blk _ _ _ _ _ _ HS ?_ m0 Try.underlying23 rfl (by rw [kc_size]; exact sz23); rfl)))) ?_
  simp only [Act.put, List.getElem_toArray, List.getElem_cons_succ, List.getElem_cons_zero, List.setIfInBounds_toArray, List.set_cons_succ, List.set_cons_zero]
  refine wm_q2 (i := 1) (some 12) rfl rfl rfl HS2 (fun W HS => (by ((refine ry_load_blk _ _ _ _ _ _ HS ?_ m0 Try.underlying23 rfl (by rw [kc_size]; exact sz23); rfl)))) ?_
  simp only [Act.put, List.getElem_toArray, List.getElem_cons_succ, List.getElem_cons_zero, List.setIfInBounds_toArray, List.set_cons_succ, List.set_cons_zero]
  refine wm_q2 (i := 3) (v := ?v2_3) (some 14) rfl rfl rfl HS2 (fun W HS => ?y2_3) ?_
  case y2_3 => (go_simp; try with_reducible rfl)
  simp only [Act.put, List.getElem_toArray, List.getElem_cons_succ, List.getElem_cons_zero, List.setIfInBounds_toArray, List.set_cons_succ, List.set_cons_zero]
  refine wm_q2 (i := 4) (some 15) rfl rfl rfl HS2 (fun W HS => (by refine ry_load_sub _ _ _ _ _ _ (kc ck) _ _ HS ?_ m1 Try.underlying23 rfl sz23 (by exact rec_check _ _ _) (by simp [kc_size]); rfl)) ?_
  simp only [Act.put, List.getElem_toArray, List.getElem_cons_succ, List.getElem_cons_zero, List.setIfInBounds_toArray, List.set_cons_succ, List.set_cons_zero]
  refine wm_e0 (i := 2) rfl ?_
  go_wp2_with (first
    | (go_at_call 57; go_must (((with_reducible refine (rderive53_c _ _).mono ?_)); rintro e W ⟨rfl, HM'⟩; replace HM := HM.keep HM'.below; clear HM')))
  refine ⟨HM.held (by simp), ?_⟩
  clear HS1 HS2
  have HS1 : Held w W [.blk b6 (kc (decryptK k bx)) 23, .blk b3 (recC bx ck v) 26] := HM.held (by simp)
  have HS2 : Held w W [.blk b6 (kc (decryptK k bx)) 23, .blk b3 (recC bx ck v) 26] := HM.held (by simp)
  refine wm_q2 (i := 5) (v := ?v2_5) (some 16) rfl rfl rfl HS2 (fun W HS => ?y2_5) ?_
  case y2_5 => (go_simp; try with_reducible rfl)
  simp only [Act.put, List.getElem_toArray, List.getElem_cons_succ, List.getElem_cons_zero, List.setIfInBounds_toArray, List.set_cons_succ, List.set_cons_zero]
  refine wm_e0 (i := 6) rfl ?_
  go_wp2_with (first
    | ((with_reducible refine st_ 23 ?_); go_must ((refine wl_store_blk _ _ _ _ _ _ _ rfl rfl HM (.there .here) (by rw [kc_size]; exact sz23) (by simp only [kc_size]) (kc_one _) ?_); clear HM; intro W HM)))
  refine ⟨HM.held (by simp), ?_⟩
  clear HS1 HS2
  have HS1 : Held w W [.blk b6 (kc (decryptK k bx)) 23, .blk b3 (recC bx ck v) 26] := HM.held (by simp)
  have HS2 : Held w W [.blk b6 (kc (decryptK k bx)) 23, .blk b3 (recC bx ck v) 26] := HM.held (by simp)
  refine wm_q2 (i := 7) (v := ?v2_6) (some 5) rfl rfl rfl HS2 (fun W HS => ?y2_6) ?_
  case y2_6 => (go_simp; try with_reducible rfl)
  simp only [Act.put, List.getElem_toArray, List.getElem_cons_succ, List.getElem_cons_zero, List.setIfInBounds_toArray, List.set_cons_succ, List.set_cons_zero]
  refine wm_nilN ?_
  clear HS1 HS2
  go_wp2_with (fail)
  refine ret2 rfl (by (exact res_row HM rfl m1 Try.underlying23 rfl (by rw [kc_size]; exact sz23))) (res_tmp rfl) rfl ?_
  exact ⟨rfl, HM.base⟩
end
end Go.Proofs.Ythdekionepfmdaa
