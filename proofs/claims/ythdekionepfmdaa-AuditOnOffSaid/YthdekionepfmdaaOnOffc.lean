/- A part of the proof of auditOnOff_proved: Enh, Eni, Gra, Grb, Tsa, Tsb, Tsc, Vea, Veb, Vec, Ved, Enj. No condition but those that each theorem states. -/
import Derived.Test.YthdekionepfmdaaOnOffb
set_option linter.unusedVariables false
set_option linter.unusedSimpArgs false
namespace Go.Proofs.Ythdekionepfmdaa
section
set_option linter.unusedVariables false
set_option linter.unusedSimpArgs false
set_option maxRecDepth 8000
open Go.RowKit
theorem run_build_ent0 (w : World) : (Instr.build 79 #[]).run Try.prog w = .ok (.agg #[.int .i64 0, .int .i64 0]) w := by
  simp [Instr.build, Try.zeroValue79, run_underlying Try.underlying79, Try.sizeOf3, Instr.fill, show ∀ cs, (Value.agg cs).cells = cs from fun _ => rfl]
def pnE (l : List Ent) (u : Int) : Int := if fdE l u = 0 then (if onB (endL l) u = true then 0 else 6) else fdE l u
def pnX (l : List Ent) (u : Int) : Ent := if pnE l u = 0 then (endL l).getD (posE (endL l) u) (0, 0) else (0, 0)
def pnN (l : List Ent) (u : Int) : Int := if pnE l u = 0 then (leavesL l).length else 0
def pnI (l : List Ent) (u : Int) : Int := if pnE l u = 0 then posE (endL l) u else 0
def pnP (l : List Ent) (u : Int) : List Key := if pnE l u = 0 then pathL (leavesL l) (posE (endL l) u) else []
theorem pn_err (l : List Ent) (u : Int) (e : Int) (h : pnE l u = e) (h0 : e ≠ 0) : pnX l u = (0, 0) ∧ pnN l u = 0 ∧ pnI l u = 0 ∧ pnP l u = [] := by
  refine ⟨?_, ?_, ?_, ?_⟩ <;> simp [pnX, pnN, pnI, pnP, h, h0]
theorem pn_ok (l : List Ent) (u : Int) (x : Ent) (h : fdE l u = 0) (ho : onB (endL l) u = true) (hx : (endL l)[posE (endL l) u]? = some x) :
    pnE l u = 0 ∧ pnX l u = x ∧ pnN l u = (leavesL l).length ∧ pnI l u = posE (endL l) u ∧ pnP l u = pathL (leavesL l) (posE (endL l) u) := by
  have h1 : pnE l u = 0 := by rw [pnE, if_pos h, if_pos ho]
  refine ⟨h1, ?_, ?_, ?_, ?_⟩
  · rw [pnX, if_pos h1, List.getD_eq_getElem?_getD, hx]; rfl
  · rw [pnN, if_pos h1]
  · rw [pnI, if_pos h1]
  · rw [pnP, if_pos h1]
set_option maxHeartbeats 1600000 in
theorem ProveOn_c (v : Value) (l : List Ent) (u : Int) (w : World) (hR : RdL encE 2 w v l) (hl : l.length ≤ 140737488351232) :
    Calls Try.prog 34 #[v, .int .i64 u] w fun e w' => ∃ q, e = .returned (.tuple #[.agg #[.int .i64 (pnX l u).1, .int .i64 (pnX l u).2], .agg #[.int .i64 (pnN l u), .int .i64 (pnI l u), q], .int .i64 (pnE l u)]) ∧
      Mem w w' [.row q 23 16 (pnP l u).length ((pnP l u).flatMap encK)] := by
  have HM := Mem.start w
  by_cases hok : validB l = true ∧ 0 ≤ u ∧ u < 64
  · obtain ⟨hv, h0, h1⟩ := hok
    have hf := fdE_ok l u hv ⟨h0, h1⟩
    obtain ⟨p1, p2⟩ := pos_facts l u h0 h1
    obtain ⟨x, hx⟩ : ∃ x, (endL l)[posE (endL l) u]? = some x := ⟨_, List.getElem?_eq_getElem p2⟩
    cases ho : onB (endL l) u with
    | true =>
      obtain ⟨e1, e2, e3, e4, e5⟩ := pn_ok l u x hf ho hx
      rw [e1, e2, e3, e4, e5]
      clear e1 e2 e3 e4 e5 hf
      have hll := leavesL_len l
      have hel := endL_len l
      have hvl := valid_len l hv
      have hp3 : posE (endL l) u < (leavesL l).length := by omega
      have hp4 : (leavesL l).length ≤ 256 := by omega
      have hp5 : ((posE (endL l) u : Nat) : Int) < ((endL l).length : Int) := by omega
      have hp6 : (0 : Int) ≤ ((posE (endL l) u : Nat) : Int) := by omega
      have hx2 : (endL l)[((posE (endL l) u : Nat) : Int).toNat]? = some x := by rw [Int.toNat_natCast]; exact hx
      clear hll hel
      go_enter Try.func34, Try.ntmps34
      go_wp2_with (first
        | ((with_reducible refine s_ 4 ?_); go_must (refine wl_alloc (dst := some 4) (cs := #[Value.int IntKind.i64 0, Value.int IntKind.i64 0]) 79 _ Try.zeroValue79 rfl HM ?_; clear HM; intro b4 W HM))
        | ((with_reducible refine s_ 5 ?_); go_must (refine wl_alloc (dst := some 5) (cs := #[Value.int IntKind.i64 0, Value.int IntKind.i64 0, Value.slice none 0 0]) 52 _ Try.zeroValue52 rfl HM ?_; clear HM; intro b5 W HM))
        | (go_at_call 85; go_must (((with_reducible refine (find_ok _ l u _ (hR.mem HM) hv h0 h1).mono ?_)); rintro e W ⟨u1, u2, rfl, HM'⟩; replace HM := HM.join HM'; clear HM'; simp only [List.cons_append, List.nil_append] at HM)))
      replace HM := HM.drew
      refine wp_region_mixN (fun W => Held w W [.row u1 79 2 (endL l).length ((endL l).flatMap encE)]) (fun W => Held w W [.row u1 79 2 (endL l).length ((endL l).flatMap encE)]) (.cons (2, 0) (.cons (2, 1) (.cons (2, 2) (.cons (2, 3) (.cons (2, 4) (.cons (2, 5) (.cons (0, 6) (.cons (0, 7) (.cons (0, 8) (.cons (2, 9) .nil)))))))))) [] (by kernel_rfl) (by kernel_rfl) (by kernel_rfl) (fun W h => Held.weak h (by simp)) (HM.held (by simp)) ?_
      revert HM; generalize World.drew _ = W; intro HM
      have HS1 : Held w W [.row u1 79 2 (endL l).length ((endL l).flatMap encE)] := HM.held (by simp)
      have HS2 : Held w W [.row u1 79 2 (endL l).length ((endL l).flatMap encE)] := HM.held (by simp)
      refine wm_q2 (i := 0) (some 30) rfl rfl rfl HS2 (fun W HS => by (go_simp; try with_reducible rfl)) ?_
      simp only [Act.put, List.getElem_toArray, List.getElem_cons_succ, List.getElem_cons_zero, List.setIfInBounds_toArray, List.set_cons_succ, List.set_cons_zero]
      refine wm_q2 (i := 1) (some 31) rfl rfl rfl HS2 (fun W HS => by (go_simp; try with_reducible rfl)) ?_
      simp only [Act.put, List.getElem_toArray, List.getElem_cons_succ, List.getElem_cons_zero, List.setIfInBounds_toArray, List.set_cons_succ, List.set_cons_zero]
      (refine wm_q2x (i := 2) (some 32) rfl rfl rfl HS2 (ry_index _ 79 _ _ _ _ _ _ _ (fun W => Held w W [.row u1 79 2 (endL l).length ((endL l).flatMap encE)]) W encE_len Try.underlying77 sz79 HS2 (fun W HS => rd_rowH HS m0 rfl (by decide) encE_len) rfl rfl (by omega) (by first | assumption | simp [*])) ?_); intro p32 hp32; obtain ⟨bb32, oo32, hpe32, -⟩ := hp32 W HS2; subst hpe32
      simp only [Act.put, List.getElem_toArray, List.getElem_cons_succ, List.getElem_cons_zero, List.setIfInBounds_toArray, List.set_cons_succ, List.set_cons_zero]
      refine wm_q2 (i := 3) (some 33) rfl rfl rfl HS2 (fun W HS => (by refine ry_load_ent _ _ _ _ ?_ (hp32 W HS) Try.underlying79 rfl sz79; rfl)) ?_
      simp only [Act.put, List.getElem_toArray, List.getElem_cons_succ, List.getElem_cons_zero, List.setIfInBounds_toArray, List.set_cons_succ, List.set_cons_zero]
      refine wm_q2 (i := 4) (some 34) rfl rfl rfl HS2 (fun W HS => by (go_simp; try with_reducible rfl)) ?_
      simp only [Act.put, List.getElem_toArray, List.getElem_cons_succ, List.getElem_cons_zero, List.setIfInBounds_toArray, List.set_cons_succ, List.set_cons_zero]
      refine wm_q2 (i := 5) (some 35) rfl rfl rfl HS2 (fun W HS => by (go_simp; try with_reducible rfl)) ?_
      simp only [Act.put, List.getElem_toArray, List.getElem_cons_succ, List.getElem_cons_zero, List.setIfInBounds_toArray, List.set_cons_succ, List.set_cons_zero]
      refine wm_e0 (i := 6) rfl ?_
      go_wp2_with (first
        | (go_at_call 70; go_must (((with_reducible refine (proof_c (leavesL l) (posE (endL l) u) _ _ hp4 hp3 (rd_row HM m0 rfl (by decide) encK_len)).mono ?_)); rintro e W ⟨q, rfl, HM'⟩; replace HM := HM.join HM'; clear HM'; simp only [List.cons_append, List.nil_append] at HM)))
      refine ⟨HM.held (by simp), ?_⟩
      clear HS1 HS2
      have HS1 : Held w W [.row u1 79 2 (endL l).length ((endL l).flatMap encE)] := HM.held (by simp)
      have HS2 : Held w W [.row u1 79 2 (endL l).length ((endL l).flatMap encE)] := HM.held (by simp)
      refine wm_e0 (i := 7) rfl ?_
      go_wp2_with (first
        | ((with_reducible refine st_ 79 ?_); go_must ((refine wl_store_blk _ _ _ _ _ _ _ rfl rfl HM (.there (.there (.there (.there .here)))) sz79 rfl (by simp [Value.oneCell']) ?_); clear HM; intro W HM)))
      refine ⟨HM.held (by simp), ?_⟩
      clear HS1 HS2
      have HS1 : Held w W [.row u1 79 2 (endL l).length ((endL l).flatMap encE)] := HM.held (by simp)
      have HS2 : Held w W [.row u1 79 2 (endL l).length ((endL l).flatMap encE)] := HM.held (by simp)
      refine wm_e0 (i := 8) rfl ?_
      go_wp2_with (first
        | ((with_reducible refine st_ 52 ?_); go_must (refine wl_store_blk _ _ _ _ _ _ _ rfl rfl HM (.there (.there (.there .here))) sz52 rfl (prf_one _ _ _ (row_one (HM.row m0))) ?_; clear HM; intro W HM)))
      refine ⟨HM.held (by simp), ?_⟩
      clear HS1 HS2
      have HS1 : Held w W [.row u1 79 2 (endL l).length ((endL l).flatMap encE)] := HM.held (by simp)
      have HS2 : Held w W [.row u1 79 2 (endL l).length ((endL l).flatMap encE)] := HM.held (by simp)
      refine wm_q2 (i := 9) (some 6) rfl rfl rfl HS2 (fun W HS => by (go_simp; try with_reducible rfl)) ?_
      simp only [Act.put, List.getElem_toArray, List.getElem_cons_succ, List.getElem_cons_zero, List.setIfInBounds_toArray, List.set_cons_succ, List.set_cons_zero]
      refine wm_nilN ?_
      clear HS1 HS2
      go_wp2_with (fail)
      refine ret3 rfl (by (exact res_row HM rfl m4 Try.underlying79 rfl sz79)) (by (exact res_row HM rfl m3 Try.underlying52 rfl sz52)) (res_tmp rfl) rfl ?_
      exact ⟨_, rfl, HM.only m0⟩
    | false =>
      have he : pnE l u = 6 := by rw [pnE, if_pos hf, if_neg (by rw [ho]; decide)]
      obtain ⟨e2, e3, e4, e5⟩ := pn_err l u 6 he (by decide)
      rw [he, e2, e3, e4, e5]
      clear he e2 e3 e4 e5 hf
      go_enter Try.func34, Try.ntmps34
      go_wp2_with (first
        | ((with_reducible refine s_ 4 ?_); go_must (refine wl_alloc (dst := some 4) (cs := #[Value.int IntKind.i64 0, Value.int IntKind.i64 0]) 79 _ Try.zeroValue79 rfl HM ?_; clear HM; intro b4 W HM))
        | ((with_reducible refine s_ 5 ?_); go_must (refine wl_alloc (dst := some 5) (cs := #[Value.int IntKind.i64 0, Value.int IntKind.i64 0, Value.slice none 0 0]) 52 _ Try.zeroValue52 rfl HM ?_; clear HM; intro b5 W HM))
        | ((with_reducible refine s_ 28 ?_); go_must (refine wl_build (dst := some 28) _ _ _ _ (run_build_ent0) rfl ?_))
        | ((with_reducible refine s_ 29 ?_); go_must (refine wl_build (dst := some 29) _ _ _ _ (run_build_prf0) rfl ?_))
        | ((with_reducible refine st_ 79 ?_); go_must ((refine wl_store_blk _ _ _ _ _ _ _ rfl rfl HM (.there (.there (.there .here))) sz79 rfl (by simp [Value.oneCell']) ?_); clear HM; intro W HM))
        | ((with_reducible refine st_ 52 ?_); go_must ((refine wl_store_blk _ _ _ _ _ _ _ rfl rfl HM (.there (.there .here)) sz52 rfl (by simp [Value.oneCell']) ?_); clear HM; intro W HM))
        | (go_at_call 85; go_must (((with_reducible refine (find_ok _ l u _ (hR.mem HM) hv h0 h1).mono ?_)); rintro e W ⟨u1, u2, rfl, HM'⟩; replace HM := HM.join HM'; clear HM'; simp only [List.cons_append, List.nil_append] at HM)))
      refine ret3 rfl (by (exact res_row HM rfl m3 Try.underlying79 rfl sz79)) (by (exact res_row HM rfl m2 Try.underlying52 rfl sz52)) (res_tmp rfl) rfl ?_
      exact ⟨_, rfl, HM.base.nilrow _ _⟩
  · have hf0 : fdE l u ≠ 0 := by
      intro hq
      cases hv : validB l with
      | false => rw [fdE_no l u hv] at hq; omega
      | true =>
        have : ¬ (0 ≤ u ∧ u < 64) := fun h => hok ⟨hv, h⟩
        rw [fdE_arg l u hv this] at hq; omega
    have he : pnE l u = fdE l u := by rw [pnE, if_neg hf0]
    obtain ⟨e2, e3, e4, e5⟩ := pn_err l u _ he hf0
    rw [he, e2, e3, e4, e5]
    clear he e2 e3 e4 e5
    have hf1 : (fdE l u == 0) = false := by simpa using hf0
    go_enter Try.func34, Try.ntmps34
    go_wp2_with (first
      | ((with_reducible refine s_ 4 ?_); go_must (refine wl_alloc (dst := some 4) (cs := #[Value.int IntKind.i64 0, Value.int IntKind.i64 0]) 79 _ Try.zeroValue79 rfl HM ?_; clear HM; intro b4 W HM))
      | ((with_reducible refine s_ 5 ?_); go_must (refine wl_alloc (dst := some 5) (cs := #[Value.int IntKind.i64 0, Value.int IntKind.i64 0, Value.slice none 0 0]) 52 _ Try.zeroValue52 rfl HM ?_; clear HM; intro b5 W HM))
      | ((with_reducible refine s_ 23 ?_); go_must (refine wl_build (dst := some 23) _ _ _ _ (run_build_ent0) rfl ?_))
      | ((with_reducible refine s_ 24 ?_); go_must (refine wl_build (dst := some 24) _ _ _ _ (run_build_prf0) rfl ?_))
      | ((with_reducible refine st_ 79 ?_); go_must ((refine wl_store_blk _ _ _ _ _ _ _ rfl rfl HM (.there .here) sz79 rfl (by simp [Value.oneCell']) ?_); clear HM; intro W HM))
      | ((with_reducible refine st_ 52 ?_); go_must ((refine wl_store_blk _ _ _ _ _ _ _ rfl rfl HM .here sz52 rfl (by simp [Value.oneCell']) ?_); clear HM; intro W HM))
      | (go_at_call 85; go_must (((with_reducible refine (find_bad _ l u _ (hR.mem HM) hl hok).mono ?_)); rintro e W ⟨rfl, HM'⟩; replace HM := HM.keep HM'.below; clear HM')))
    refine ret3 rfl (by (exact res_row HM rfl m1 Try.underlying79 rfl sz79)) (by (exact res_row HM rfl m0 Try.underlying52 rfl sz52)) (res_tmp rfl) rfl ?_
    exact ⟨_, rfl, HM.base.nilrow _ _⟩
def NoneTo (l : List Ent) (u : Int) (i : Nat) : Prop := ∀ (k : Nat) (x : Ent), k < i → l[k]? = some x → x.1 ≠ u
theorem NoneTo.start (l : List Ent) (u : Int) : NoneTo l u 0 := fun k x hk => by omega
theorem NoneTo.step {l : List Ent} {u : Int} {i : Nat} {x : Ent} (h : NoneTo l u i) (hx : l[i]? = some x) (hn : x.1 ≠ u) : NoneTo l u (i + 1) := fun k y hk hy => by
  rcases Nat.lt_or_ge k i with h1 | h1
  · exact h k y h1 hy
  · obtain rfl : k = i := by omega
    rw [hx] at hy; injection hy with hy; subst hy; exact hn
theorem NoneTo.all {l : List Ent} {u : Int} {i : Nat} (h : NoneTo l u i) (hi : l.length ≤ i) (h0 : 0 ≤ u) (h1 : u < 64) : onB (endL l) u = false :=
  on_none l u h0 h1 fun k x hx => h k x (by have := (List.getElem?_eq_some_iff.1 hx).1; omega) hx
def PnIs (l : List Ent) (u : Int) (x : Ent) (i : Nat) : Prop := pnE l u = 0 ∧ pnX l u = x ∧ pnN l u = (leavesL l).length ∧ pnI l u = ((i + 1 : Nat) : Int) ∧ pnP l u = pathL (leavesL l) (i + 1)
set_option maxHeartbeats 1600000 in
theorem rProveOn_c (v : Value) (l : List Ent) (u : Int) (w : World) (hR : RdL encE 2 w v l) (hl : l.length ≤ 140737488351232) :
    Calls Try.prog 35 #[v, .int .i64 u] w fun e w' => ∃ q, e = .returned (.tuple #[.agg #[.int .i64 (pnX l u).1, .int .i64 (pnX l u).2], .agg #[.int .i64 (pnN l u), .int .i64 (pnI l u), q], .int .i64 (pnE l u)]) ∧
      Mem w w' [.row q 23 16 (pnP l u).length ((pnP l u).flatMap encK)] := by
  have HM := Mem.start w
  cases hv : validB l with
  | false =>
    have hf := fdE_no l u hv
    have he : pnE l u = 90 := by rw [pnE, if_neg (by rw [hf]; decide), hf]
    obtain ⟨e2, e3, e4, e5⟩ := pn_err l u _ he (by decide)
    rw [he, e2, e3, e4, e5]
    clear he e2 e3 e4 e5 hf
    go_enter Try.func35, Try.ntmps35
    go_wp2_with (first
      | ((with_reducible refine s_ 4 ?_); go_must (refine wl_alloc (dst := some 4) (cs := #[Value.int IntKind.i64 0, Value.int IntKind.i64 0]) 79 _ Try.zeroValue79 rfl HM ?_; clear HM; intro b4 W HM))
      | ((with_reducible refine s_ 5 ?_); go_must (refine wl_alloc (dst := some 5) (cs := #[Value.int IntKind.i64 0, Value.int IntKind.i64 0, Value.slice none 0 0]) 52 _ Try.zeroValue52 rfl HM ?_; clear HM; intro b5 W HM))
      | ((with_reducible refine s_ 11 ?_); go_must (refine wl_build (dst := some 11) _ _ _ _ (run_build_ent0) rfl ?_))
      | ((with_reducible refine s_ 12 ?_); go_must (refine wl_build (dst := some 12) _ _ _ _ (run_build_prf0) rfl ?_))
      | ((with_reducible refine st_ 79 ?_); go_must ((refine wl_store_blk _ _ _ _ _ _ _ rfl rfl HM (.there .here) sz79 rfl (by simp [Value.oneCell']) ?_); clear HM; intro W HM))
      | ((with_reducible refine st_ 52 ?_); go_must ((refine wl_store_blk _ _ _ _ _ _ _ rfl rfl HM .here sz52 rfl (by simp [Value.oneCell']) ?_); clear HM; intro W HM))
      | (go_at_call 86; go_must (((with_reducible refine (rValidList_c _ l _ (hR.mem HM) hl).mono ?_)); rintro e W ⟨rfl, HM'⟩; replace HM := HM.keep HM'.below; clear HM')))
    refine ret3 rfl (by (exact res_row HM rfl m1 Try.underlying79 rfl sz79)) (by (exact res_row HM rfl m0 Try.underlying52 rfl sz52)) (res_tmp rfl) rfl ?_
    exact ⟨_, rfl, HM.base.nilrow _ _⟩
  | true =>
    by_cases hu : 0 ≤ u ∧ u < 64
    · obtain ⟨h0, h1⟩ := hu
      have hf := fdE_ok l u hv ⟨h0, h1⟩
      have hu0 : ¬ u < 0 := by omega
      have hu1 : ¬ 64 ≤ u := by omega
      have hvl := valid_len l hv
      have hE := valid_ent l hv
      have hp4 : (leavesL l).length ≤ 256 := by rw [leavesL_len]; omega
      go_enter Try.func35, Try.ntmps35
      go_wp2_with (first
        | ((with_reducible refine s_ 4 ?_); go_must (refine wl_alloc (dst := some 4) (cs := #[Value.int IntKind.i64 0, Value.int IntKind.i64 0]) 79 _ Try.zeroValue79 rfl HM ?_; clear HM; intro b4 W HM))
        | ((with_reducible refine s_ 5 ?_); go_must (refine wl_alloc (dst := some 5) (cs := #[Value.int IntKind.i64 0, Value.int IntKind.i64 0, Value.slice none 0 0]) 52 _ Try.zeroValue52 rfl HM ?_; clear HM; intro b5 W HM))
        | (go_at_call 86; go_must (((with_reducible refine (rValidList_c _ l _ (hR.mem HM) hl).mono ?_)); rintro e W ⟨rfl, HM'⟩; replace HM := HM.keep HM'.below; clear HM')))
      go_loopw [7] (fun c wr => ∃ i : Nat, i ≤ l.length ∧ c = .int .i64 i ∧ NoneTo l u i ∧ Mem w wr [.blk b5 #[.int .i64 0, .int .i64 0, .slice none 0 0] 52, .blk b4 #[.int .i64 0, .int .i64 0] 79])
        (fun c _ => l.length - (intOf c).toNat)
      case atStart => exact ⟨0, by omega, rfl, NoneTo.start l u, HM⟩
      case round =>
        clear HM
        obtain ⟨i, hi, rfl, hN, HM⟩ := hrel
        by_cases hlt : i < l.length
        · have hb : (i : Int) < (l.length : Int) := by omega
          obtain ⟨x, hx⟩ : ∃ x, l[i]? = some x := ⟨_, List.getElem?_eq_getElem hlt⟩
          by_cases hq : x.1 = u
          · have hq1 : (x.1 == u) = true := by simpa using hq
            obtain ⟨o1, o2⟩ := on_at l u i x hv hx hq
            obtain ⟨e1, e2, e3, e4, e5⟩ := pn_ok l u x hf o2 (by rw [o1]; exact endL_succ l i x hx)
            rw [o1] at e4 e5
            have E : pnE l u = 0 ∧ pnX l u = x ∧ pnN l u = (leavesL l).length ∧ pnI l u = ((i + 1 : Nat) : Int) ∧ pnP l u = pathL (leavesL l) (i + 1) := ⟨e1, e2, e3, e4, e5⟩
            have HE : PnIs l u x i := E
            clear E e1 e2 e3 e4 e5 o1 o2 hq hf
            have hp3 : i + 1 < (leavesL l).length := by rw [leavesL_len]; omega
            have hpo : ∀ (v' : Value) (W : World), RdL encK 16 W v' (leavesL l) → Calls Try.prog 71 #[v', .int .i64 ((i : Int) + 1)] W fun e w' => ∃ q, e = .returned (.agg #[.int .i64 (leavesL l).length, .int .i64 ((i : Int) + 1), q]) ∧ Mem W w' [.row q 23 16 (pathL (leavesL l) (i + 1)).length ((pathL (leavesL l) (i + 1)).flatMap encK)] :=
              fun v' W h => rproofOf_c (leavesL l) (i + 1) v' W hp4 hp3 h
            go_wp2_with (first
              | ((with_reducible refine s_ 23 ?_); go_must ((refine wl_len (dst := some 23) _ _ _ _ 79 Try.underlying77 rfl (hR.mem HM) ?_)))
              | ((with_reducible refine s_ 29 ?_); go_must ((refine wl_index (dst := some 29) _ 79 _ _ _ _ _ _ _ encE_len Try.underlying77 sz79 rfl rfl (hR.mem HM) (by omega) (by first | assumption | simp [*]) ?_); intro p29 hp29; obtain ⟨bb29, oo29, hpe29, -⟩ := id hp29; subst hpe29))
              | ((with_reducible refine s_ 31 ?_); go_must (refine wl_load_at1 (dst := some 31) _ _ _ _ _ rfl (At.e0 hp29) Try.underlying3 rfl ?_)))
            replace HM := HM.drew
            refine wp_region_mixN (fun W => Held w W []) (fun W => Held w W []) (.cons (2, 0) (.cons (2, 1) (.cons (2, 2) (.cons (2, 3) (.cons (2, 4) (.cons (2, 6) (.cons (2, 7) (.cons (0, 5) (.cons (0, 8) (.cons (0, 9) (.cons (0, 10) (.cons (2, 11) .nil)))))))))))) [] (by kernel_rfl) (by kernel_rfl) (by kernel_rfl) (fun W h => Held.weak h (by simp)) (HM.held (by simp)) ?_
            revert HM; generalize World.drew _ = W; intro HM
            have HS1 : Held w W [] := HM.held (by simp)
            have HS2 : Held w W [] := HM.held (by simp)
            refine wm_q2 (i := 0) (some 34) rfl rfl rfl HS2 (fun W HS => by (go_simp; try with_reducible rfl)) ?_
            simp only [Act.put, List.getElem_toArray, List.getElem_cons_succ, List.getElem_cons_zero, List.setIfInBounds_toArray, List.set_cons_succ, List.set_cons_zero]
            refine wm_q2 (i := 1) (some 35) rfl rfl rfl HS2 (fun W HS => by (go_simp; try with_reducible rfl)) ?_
            simp only [Act.put, List.getElem_toArray, List.getElem_cons_succ, List.getElem_cons_zero, List.setIfInBounds_toArray, List.set_cons_succ, List.set_cons_zero]
            (refine wm_q2x (i := 2) (some 36) rfl rfl rfl HS2 (ry_index _ 79 _ _ _ _ _ _ _ (fun W => Held w W []) W encE_len Try.underlying77 sz79 HS2 (fun W HS => hR.held HS) rfl rfl (by omega) (by first | assumption | simp [*])) ?_); intro p36 hp36; obtain ⟨bb36, oo36, hpe36, -⟩ := hp36 W HS2; subst hpe36
            simp only [Act.put, List.getElem_toArray, List.getElem_cons_succ, List.getElem_cons_zero, List.setIfInBounds_toArray, List.set_cons_succ, List.set_cons_zero]
            refine wm_q2 (i := 3) (some 37) rfl rfl rfl HS2 (fun W HS => (by refine ry_load_ent _ _ _ _ ?_ (hp36 W HS) Try.underlying79 rfl sz79; rfl)) ?_
            simp only [Act.put, List.getElem_toArray, List.getElem_cons_succ, List.getElem_cons_zero, List.setIfInBounds_toArray, List.set_cons_succ, List.set_cons_zero]
            refine wm_q2 (i := 4) (some 38) rfl rfl rfl HS2 (fun W HS => by (go_simp; try with_reducible rfl)) ?_
            simp only [Act.put, List.getElem_toArray, List.getElem_cons_succ, List.getElem_cons_zero, List.setIfInBounds_toArray, List.set_cons_succ, List.set_cons_zero]
            refine wm_q2 (i := 6) (some 40) rfl rfl rfl HS2 (fun W HS => by (go_simp; try with_reducible rfl)) ?_
            simp only [Act.put, List.getElem_toArray, List.getElem_cons_succ, List.getElem_cons_zero, List.setIfInBounds_toArray, List.set_cons_succ, List.set_cons_zero]
            refine wm_q2 (i := 7) (some 41) rfl rfl rfl HS2 (fun W HS => by (go_simp; try with_reducible rfl)) ?_
            simp only [Act.put, List.getElem_toArray, List.getElem_cons_succ, List.getElem_cons_zero, List.setIfInBounds_toArray, List.set_cons_succ, List.set_cons_zero]
            refine wm_e0 (i := 5) rfl ?_
            go_wp2_with (first
              | (go_at_call 87; go_must (((with_reducible refine (rLeaves_c _ l _ (hR.mem HM) hvl hE).mono ?_)); rintro e W ⟨u39, rfl, HM'⟩; replace HM := HM.join HM'; clear HM'; simp only [List.cons_append, List.nil_append] at HM)))
            refine ⟨HM.held (by simp), ?_⟩
            clear HS1 HS2
            have HS1 : Held w W [] := HM.held (by simp)
            have HS2 : Held w W [] := HM.held (by simp)
            refine wm_e0 (i := 8) rfl ?_
            go_wp2_with (first
              | (go_at_call 71; go_must (((with_reducible refine (hpo _ _ (rd_row HM m0 rfl (by decide) encK_len)).mono ?_)); rintro e W ⟨q, rfl, HM'⟩; replace HM := HM.join HM'; clear HM'; simp only [List.cons_append, List.nil_append] at HM)))
            refine ⟨HM.held (by simp), ?_⟩
            clear HS1 HS2
            have HS1 : Held w W [] := HM.held (by simp)
            have HS2 : Held w W [] := HM.held (by simp)
            refine wm_e0 (i := 9) rfl ?_
            go_wp2_with (first
              | ((with_reducible refine st_ 79 ?_); go_must ((refine wl_store_blk _ _ _ _ _ _ _ rfl rfl HM (.there (.there (.there .here))) sz79 rfl (by simp [Value.oneCell']) ?_); clear HM; intro W HM)))
            refine ⟨HM.held (by simp), ?_⟩
            clear HS1 HS2
            have HS1 : Held w W [] := HM.held (by simp)
            have HS2 : Held w W [] := HM.held (by simp)
            refine wm_e0 (i := 10) rfl ?_
            go_wp2_with (first
              | ((with_reducible show wpList _ _ _ (Oper.mk none (Op.store 52 _ (Operand.tmp 42)) _ _ _ _ :: _) _ _); go_must (refine wl_store_blk _ _ _ _ _ _ _ rfl rfl HM (.there (.there .here)) sz52 rfl (prf_one _ _ _ (row_one (HM.row m0))) ?_; clear HM; intro W HM)))
            refine ⟨HM.held (by simp), ?_⟩
            clear HS1 HS2
            have HS1 : Held w W [] := HM.held (by simp)
            have HS2 : Held w W [] := HM.held (by simp)
            refine wm_q2 (i := 11) (some 6) rfl rfl rfl HS2 (fun W HS => by (go_simp; try with_reducible rfl)) ?_
            simp only [Act.put, List.getElem_toArray, List.getElem_cons_succ, List.getElem_cons_zero, List.setIfInBounds_toArray, List.set_cons_succ, List.set_cons_zero]
            refine wm_nilN ?_
            clear HS1 HS2
            go_wp2_with (fail)
            refine ret3 rfl (by (exact res_row HM rfl m3 Try.underlying79 rfl sz79)) (by (exact res_row HM rfl m2 Try.underlying52 rfl sz52)) (res_tmp rfl) rfl ?_
            obtain ⟨e1, e2, e3, e4, e5⟩ := HE
            rw [e1, e2, e3, e4, e5]
            exact ⟨_, rfl, HM.only m0⟩
          · have hq1 : (x.1 == u) = false := by simpa using hq
            go_wp2_with (first
              | ((with_reducible refine s_ 23 ?_); go_must ((refine wl_len (dst := some 23) _ _ _ _ 79 Try.underlying77 rfl (hR.mem HM) ?_)))
              | ((with_reducible refine s_ 29 ?_); go_must ((refine wl_index (dst := some 29) _ 79 _ _ _ _ _ _ _ encE_len Try.underlying77 sz79 rfl rfl (hR.mem HM) (by omega) (by first | assumption | simp [*]) ?_); intro p29 hp29; obtain ⟨bb29, oo29, hpe29, -⟩ := id hp29; subst hpe29))
              | ((with_reducible refine s_ 31 ?_); go_must (refine wl_load_at1 (dst := some 31) _ _ _ _ _ rfl (At.e0 hp29) Try.underlying3 rfl ?_)))
            go_roundw
            case rel => exact ⟨i + 1, by omega, by go_num, hN.step hx hq, HM⟩
            case measure => simp [intOf]; omega
        · have hb : ¬ (i : Int) < (l.length : Int) := by omega
          go_wp2_with (first
            | ((with_reducible refine s_ 23 ?_); go_must ((refine wl_len (dst := some 23) _ _ _ _ 79 Try.underlying77 rfl (hR.mem HM) ?_)))
            | ((with_reducible refine s_ 43 ?_); go_must (refine wl_build (dst := some 43) _ _ _ _ (run_build_ent0) rfl ?_))
            | ((with_reducible refine s_ 44 ?_); go_must (refine wl_build (dst := some 44) _ _ _ _ (run_build_prf0) rfl ?_))
            | ((with_reducible refine st_ 79 ?_); go_must ((refine wl_store_blk _ _ _ _ _ _ _ rfl rfl HM (.there .here) sz79 rfl (by simp [Value.oneCell']) ?_); clear HM; intro W HM))
            | ((with_reducible refine st_ 52 ?_); go_must ((refine wl_store_blk _ _ _ _ _ _ _ rfl rfl HM .here sz52 rfl (by simp [Value.oneCell']) ?_); clear HM; intro W HM)))
          refine ret3 rfl (by (exact res_row HM rfl m1 Try.underlying79 rfl sz79)) (by (exact res_row HM rfl m0 Try.underlying52 rfl sz52)) (res_tmp rfl) rfl ?_
          have ho := hN.all (by omega) h0 h1
          have he : pnE l u = 6 := by rw [pnE, if_pos hf, if_neg (by rw [ho]; decide)]
          obtain ⟨e2, e3, e4, e5⟩ := pn_err l u 6 he (by decide)
          rw [he, e2, e3, e4, e5]
          exact ⟨_, rfl, HM.base.nilrow _ _⟩
    · have hf := fdE_arg l u hv hu
      have he : pnE l u = 2 := by rw [pnE, if_neg (by rw [hf]; decide), hf]
      obtain ⟨e2, e3, e4, e5⟩ := pn_err l u _ he (by decide)
      rw [he, e2, e3, e4, e5]
      clear he e2 e3 e4 e5 hf
      by_cases hu0 : u < 0
      all_goals
        (try have hu1 : 64 ≤ u := by omega)
        clear hu
        go_enter Try.func35, Try.ntmps35
        go_wp2_with (first
          | ((with_reducible refine s_ 4 ?_); go_must (refine wl_alloc (dst := some 4) (cs := #[Value.int IntKind.i64 0, Value.int IntKind.i64 0]) 79 _ Try.zeroValue79 rfl HM ?_; clear HM; intro b4 W HM))
          | ((with_reducible refine s_ 5 ?_); go_must (refine wl_alloc (dst := some 5) (cs := #[Value.int IntKind.i64 0, Value.int IntKind.i64 0, Value.slice none 0 0]) 52 _ Try.zeroValue52 rfl HM ?_; clear HM; intro b5 W HM))
          | ((with_reducible refine s_ 19 ?_); go_must (refine wl_build (dst := some 19) _ _ _ _ (run_build_ent0) rfl ?_))
          | ((with_reducible refine s_ 20 ?_); go_must (refine wl_build (dst := some 20) _ _ _ _ (run_build_prf0) rfl ?_))
          | ((with_reducible refine st_ 79 ?_); go_must ((refine wl_store_blk _ _ _ _ _ _ _ rfl rfl HM (.there .here) sz79 rfl (by simp [Value.oneCell']) ?_); clear HM; intro W HM))
          | ((with_reducible refine st_ 52 ?_); go_must ((refine wl_store_blk _ _ _ _ _ _ _ rfl rfl HM .here sz52 rfl (by simp [Value.oneCell']) ?_); clear HM; intro W HM))
          | (go_at_call 86; go_must (((with_reducible refine (rValidList_c _ l _ (hR.mem HM) hl).mono ?_)); rintro e W ⟨rfl, HM'⟩; replace HM := HM.keep HM'.below; clear HM')))
        refine ret3 rfl (by (exact res_row HM rfl m1 Try.underlying79 rfl sz79)) (by (exact res_row HM rfl m0 Try.underlying52 rfl sz52)) (res_tmp rfl) rfl ?_
        exact ⟨_, rfl, HM.base.nilrow _ _⟩
end
section
set_option linter.unusedVariables false
set_option linter.unusedSimpArgs false
set_option maxRecDepth 8000
open Go.RowKit
abbrev absV (lo hi : Ent) (n i : Int) (q1 : Value) (m j : Int) (q2 : Value) : Value := .agg #[.int .i64 lo.1, .int .i64 lo.2, .int .i64 hi.1, .int .i64 hi.2, .int .i64 n, .int .i64 i, q1, .int .i64 m, .int .i64 j, q2]
theorem abs_one (lo hi : Ent) (n i : Int) (q1 : Value) (m j : Int) (q2 : Value) (h1 : q1.oneCell' = true) (h2 : q2.oneCell' = true) : (#[Value.int .i64 lo.1, .int .i64 lo.2, .int .i64 hi.1, .int .i64 hi.2, .int .i64 n, .int .i64 i, q1, .int .i64 m, .int .i64 j, q2]).all (·.oneCell') = true :=
  all_oneCell_toArray (cs := [.int .i64 lo.1, .int .i64 lo.2, .int .i64 hi.1, .int .i64 hi.2, .int .i64 n, .int .i64 i, q1, .int .i64 m, .int .i64 j, q2]) fun x hx => by
    simp only [List.mem_cons, List.not_mem_nil, or_false] at hx
    rcases hx with rfl | rfl | rfl | rfl | rfl | rfl | rfl | rfl | rfl | rfl
    all_goals first | rfl | assumption
theorem run_build_abs (lo hi : Ent) (n i : Int) (q1 : Value) (m j : Int) (q2 : Value) (h1 : q1.cells = #[q1]) (h2 : q2.cells = #[q2]) (w : World) :
    (Instr.build 81 #[(0, .agg #[.int .i64 lo.1, .int .i64 lo.2]), (1, .agg #[.int .i64 hi.1, .int .i64 hi.2]), (2, .agg #[.int .i64 n, .int .i64 i, q1]), (3, .agg #[.int .i64 m, .int .i64 j, q2])]).run Try.prog w = .ok (absV lo hi n i q1 m j q2) w := by
  simp [Instr.build, Try.zeroValue81, run_underlying Try.underlying81, Try.sizeOf79, Try.sizeOf52, Instr.fill, show ∀ cs, (Value.agg cs).cells = cs from fun _ => rfl]
theorem run_build_abs0 (w : World) : (Instr.build 81 #[]).run Try.prog w = .ok (absV (0, 0) (0, 0) 0 0 (.slice none 0 0) 0 0 (.slice none 0 0)) w := by
  simp [Instr.build, Try.zeroValue81, run_underlying Try.underlying81, Try.sizeOf79, Try.sizeOf52, Instr.fill, show ∀ cs, (Value.agg cs).cells = cs from fun _ => rfl]
def afE (l : List Ent) (u : Int) : Int := if fdE l u = 0 then (if onB (endL l) u = true then 6 else 0) else fdE l u
def afK (l : List Ent) (u : Int) : Nat := posE (endL l) u - 1
def afLo (l : List Ent) (u : Int) : Ent := if afE l u = 0 then (endL l).getD (afK l u) (0, 0) else (0, 0)
def afHi (l : List Ent) (u : Int) : Ent := if afE l u = 0 then (endL l).getD (afK l u + 1) (0, 0) else (0, 0)
def afN (l : List Ent) (u : Int) : Int := if afE l u = 0 then (leavesL l).length else 0
def afI (l : List Ent) (u : Int) : Int := if afE l u = 0 then afK l u else 0
def afJ (l : List Ent) (u : Int) : Int := if afE l u = 0 then (afK l u : Int) + 1 else 0
def afP (l : List Ent) (u : Int) : List Key := if afE l u = 0 then pathL (leavesL l) (afK l u) else []
def afQ (l : List Ent) (u : Int) : List Key := if afE l u = 0 then pathL (leavesL l) (afK l u + 1) else []
theorem af_err (l : List Ent) (u : Int) (e : Int) (h : afE l u = e) (h0 : e ≠ 0) : afLo l u = (0, 0) ∧ afHi l u = (0, 0) ∧ afN l u = 0 ∧ afI l u = 0 ∧ afJ l u = 0 ∧ afP l u = [] ∧ afQ l u = [] := by
  refine ⟨?_, ?_, ?_, ?_, ?_, ?_, ?_⟩ <;> simp [afLo, afHi, afN, afI, afJ, afP, afQ, h, h0]
theorem af_ok (l : List Ent) (u : Int) (x y : Ent) (k : Nat) (h : fdE l u = 0) (ho : onB (endL l) u = false) (hk : posE (endL l) u = k + 1) (hx : (endL l)[k]? = some x) (hy : (endL l)[k + 1]? = some y) :
    afE l u = 0 ∧ afLo l u = x ∧ afHi l u = y ∧ afN l u = (leavesL l).length ∧ afI l u = k ∧ afJ l u = (k : Int) + 1 ∧ afP l u = pathL (leavesL l) k ∧ afQ l u = pathL (leavesL l) (k + 1) := by
  have h1 : afE l u = 0 := by rw [afE, if_pos h, if_neg (by rw [ho]; decide)]
  have h2 : afK l u = k := by rw [afK, hk]; rfl
  refine ⟨h1, ?_, ?_, ?_, ?_, ?_, ?_, ?_⟩
  · rw [afLo, if_pos h1, h2, List.getD_eq_getElem?_getD, hx]; rfl
  · rw [afHi, if_pos h1, h2, List.getD_eq_getElem?_getD, hy]; rfl
  · rw [afN, if_pos h1]
  · rw [afI, if_pos h1, h2]
  · rw [afJ, if_pos h1, h2]
  · rw [afP, if_pos h1, h2]
  · rw [afQ, if_pos h1, h2]
theorem proof_two (l : List Ent) (k : Nat) (h4 : (leavesL l).length ≤ 256) (h3 : k + 1 < (leavesL l).length) (v : Value) (W : World) (h : RdL encK 16 W v (leavesL l)) :
    Calls Try.prog 70 #[v, .int .i64 ((k : Int) + 1)] W fun e w' => ∃ q, e = .returned (.agg #[.int .i64 (leavesL l).length, .int .i64 ((k : Int) + 1), q]) ∧ Mem W w' [.row q 23 16 (pathL (leavesL l) (k + 1)).length ((pathL (leavesL l) (k + 1)).flatMap encK)] :=
  proof_c (leavesL l) (k + 1) v W h4 h3 h
theorem rproof_two (l : List Ent) (k : Nat) (h4 : (leavesL l).length ≤ 256) (h3 : k + 1 < (leavesL l).length) (v : Value) (W : World) (h : RdL encK 16 W v (leavesL l)) :
    Calls Try.prog 71 #[v, .int .i64 ((k : Int) + 1)] W fun e w' => ∃ q, e = .returned (.agg #[.int .i64 (leavesL l).length, .int .i64 ((k : Int) + 1), q]) ∧ Mem W w' [.row q 23 16 (pathL (leavesL l) (k + 1)).length ((pathL (leavesL l) (k + 1)).flatMap encK)] :=
  rproofOf_c (leavesL l) (k + 1) v W h4 h3 h
set_option maxHeartbeats 1600000 in
theorem ProveOff_c (v : Value) (l : List Ent) (u : Int) (w : World) (hR : RdL encE 2 w v l) (hl : l.length ≤ 140737488351232) :
    Calls Try.prog 36 #[v, .int .i64 u] w fun e w' => ∃ q1 q2, e = .returned (.tuple #[absV (afLo l u) (afHi l u) (afN l u) (afI l u) q1 (afN l u) (afJ l u) q2, .int .i64 (afE l u)]) ∧
      Mem w w' [.row q2 23 16 (afQ l u).length ((afQ l u).flatMap encK), .row q1 23 16 (afP l u).length ((afP l u).flatMap encK)] := by
  have HM := Mem.start w
  by_cases hok : validB l = true ∧ 0 ≤ u ∧ u < 64
  · obtain ⟨hv, h0, h1⟩ := hok
    have hf := fdE_ok l u hv ⟨h0, h1⟩
    obtain ⟨p1, p2⟩ := pos_facts l u h0 h1
    obtain ⟨k, hk⟩ : ∃ k, posE (endL l) u = k + 1 := ⟨posE (endL l) u - 1, by omega⟩
    cases ho : onB (endL l) u with
    | false =>
      obtain ⟨x, hx⟩ : ∃ x, (endL l)[k]? = some x := ⟨_, List.getElem?_eq_getElem (by omega)⟩
      obtain ⟨y, hy⟩ : ∃ y, (endL l)[k + 1]? = some y := ⟨_, List.getElem?_eq_getElem (by omega)⟩
      obtain ⟨e1, e2, e3, e4, e5, e6, e7, e8⟩ := af_ok l u x y k hf ho hk hx hy
      rw [e1, e2, e3, e4, e5, e6, e7, e8]
      clear e1 e2 e3 e4 e5 e6 e7 e8 hf
      have hll := leavesL_len l
      have hel := endL_len l
      have hvl := valid_len l hv
      have hp3 : k + 1 < (leavesL l).length := by omega
      have hp4 : (leavesL l).length ≤ 256 := by omega
      have hp5 : (k : Int) + 1 < ((endL l).length : Int) := by omega
      have hp7 : (k : Int) < ((endL l).length : Int) := by omega
      have hp6 : (0 : Int) ≤ (k : Int) + 1 := by omega
      have hw : IntKind.i64.wrap ((k : Int) + 1 - 1) = (k : Int) := by rw [IntKind.wrap_i64]; omega
      have hw2 : IntKind.i64.wrap (k : Int) = (k : Int) := by rw [IntKind.wrap_i64]; omega
      have hx2 : (endL l)[((k : Int)).toNat]? = some x := by rw [Int.toNat_natCast]; exact hx
      have hy2 : (endL l)[((k : Int) + 1).toNat]? = some y := by rw [show ((k : Int) + 1).toNat = k + 1 by omega]; exact hy
      have hfind : ∀ W, Mem w W [.blk 0 #[] 0] ∨ True → RdL encE 2 W v l → Calls Try.prog 85 #[v, .int .i64 u] W fun e w' => ∃ u1 u2, e = .returned (.tuple #[u1, u2, .int .i64 ((k : Int) + 1), .bool false, .int .i64 0]) ∧
          Mem W w' [.row u2 23 16 (leavesL l).length ((leavesL l).flatMap encK), .row u1 79 2 (endL l).length ((endL l).flatMap encE)] := by
        intro W _ hW
        have := find_ok v l u W hW hv h0 h1
        rw [hk, ho] at this
        exact this
      clear hll hel hk ho
      go_enter Try.func36, Try.ntmps36
      go_wp2_with (first
        | ((with_reducible refine s_ 4 ?_); go_must (refine wl_alloc (dst := some 4) (cs := #[Value.int IntKind.i64 0, Value.int IntKind.i64 0, Value.int IntKind.i64 0, Value.int IntKind.i64 0, Value.int IntKind.i64 0, Value.int IntKind.i64 0, Value.slice none 0 0, Value.int IntKind.i64 0, Value.int IntKind.i64 0, Value.slice none 0 0]) 81 _ Try.zeroValue81 rfl HM ?_; clear HM; intro b4 W HM))
        | (go_at_call 85; go_must (((with_reducible refine (hfind _ (.inr trivial) (hR.mem HM)).mono ?_)); rintro e W ⟨u1, u2, rfl, HM'⟩; replace HM := HM.join HM'; clear HM'; simp only [List.cons_append, List.nil_append] at HM)))
      replace HM := HM.drew
      refine wp_region_mixN (fun W => Held w W [.row u1 79 2 (endL l).length ((endL l).flatMap encE)]) (fun W => Held w W [.row u1 79 2 (endL l).length ((endL l).flatMap encE)]) (.cons (2, 0) (.cons (2, 1) (.cons (2, 2) (.cons (2, 3) (.cons (2, 4) (.cons (2, 5) (.cons (2, 6) (.cons (2, 7) (.cons (2, 8) (.cons (2, 9) (.cons (2, 10) (.cons (2, 11) (.cons (2, 13) (.cons (2, 14) (.cons (0, 12) (.cons (0, 15) (.cons (2, 16) (.cons (0, 17) (.cons (2, 18) .nil))))))))))))))))))) [] (by kernel_rfl) (by kernel_rfl) (by kernel_rfl) (fun W h => Held.weak h (by simp)) (HM.held (by simp)) ?_
      revert HM; generalize World.drew _ = W; intro HM
      have HS1 : Held w W [.row u1 79 2 (endL l).length ((endL l).flatMap encE)] := HM.held (by simp)
      have HS2 : Held w W [.row u1 79 2 (endL l).length ((endL l).flatMap encE)] := HM.held (by simp)
      refine wm_q2 (i := 0) (some 26) rfl rfl rfl HS2 (fun W HS => by (go_simp; try with_reducible rfl)) ?_
      simp only [Act.put, List.getElem_toArray, List.getElem_cons_succ, List.getElem_cons_zero, List.setIfInBounds_toArray, List.set_cons_succ, List.set_cons_zero]
      refine wm_q2 (i := 1) (some 27) rfl rfl rfl HS2 (fun W HS => by (go_simp; try with_reducible rfl)) ?_
      simp only [Act.put, List.getElem_toArray, List.getElem_cons_succ, List.getElem_cons_zero, List.setIfInBounds_toArray, List.set_cons_succ, List.set_cons_zero]
      refine wm_q2 (i := 2) (some 28) rfl rfl rfl HS2 (fun W HS => by (go_simp; try with_reducible rfl)) ?_
      simp only [Act.put, List.getElem_toArray, List.getElem_cons_succ, List.getElem_cons_zero, List.setIfInBounds_toArray, List.set_cons_succ, List.set_cons_zero]
      (refine wm_q2x (i := 3) (some 29) rfl rfl rfl HS2 (ry_index _ 79 _ _ _ _ _ _ _ (fun W => Held w W [.row u1 79 2 (endL l).length ((endL l).flatMap encE)]) W encE_len Try.underlying77 sz79 HS2 (fun W HS => rd_rowH HS m0 rfl (by decide) encE_len) rfl rfl (by omega) (by first | assumption | simp [*])) ?_); intro p29 hp29; obtain ⟨bb29, oo29, hpe29, -⟩ := hp29 W HS2; subst hpe29
      simp only [Act.put, List.getElem_toArray, List.getElem_cons_succ, List.getElem_cons_zero, List.setIfInBounds_toArray, List.set_cons_succ, List.set_cons_zero]
      refine wm_q2 (i := 4) (some 30) rfl rfl rfl HS2 (fun W HS => (by refine ry_load_ent _ _ _ _ ?_ (hp29 W HS) Try.underlying79 rfl sz79; rfl)) ?_
      simp only [Act.put, List.getElem_toArray, List.getElem_cons_succ, List.getElem_cons_zero, List.setIfInBounds_toArray, List.set_cons_succ, List.set_cons_zero]
      refine wm_q2 (i := 5) (some 31) rfl rfl rfl HS2 (fun W HS => by (go_simp; try with_reducible rfl)) ?_
      simp only [Act.put, List.getElem_toArray, List.getElem_cons_succ, List.getElem_cons_zero, List.setIfInBounds_toArray, List.set_cons_succ, List.set_cons_zero]
      refine wm_q2 (i := 6) (some 32) rfl rfl rfl HS2 (fun W HS => by (go_simp; try with_reducible rfl)) ?_
      simp only [Act.put, List.getElem_toArray, List.getElem_cons_succ, List.getElem_cons_zero, List.setIfInBounds_toArray, List.set_cons_succ, List.set_cons_zero]
      (refine wm_q2x (i := 7) (some 33) rfl rfl rfl HS2 (ry_index _ 79 _ _ _ _ _ _ _ (fun W => Held w W [.row u1 79 2 (endL l).length ((endL l).flatMap encE)]) W encE_len Try.underlying77 sz79 HS2 (fun W HS => rd_rowH HS m0 rfl (by decide) encE_len) rfl rfl (by omega) (by first | assumption | simp [*])) ?_); intro p33 hp33; obtain ⟨bb33, oo33, hpe33, -⟩ := hp33 W HS2; subst hpe33
      simp only [Act.put, List.getElem_toArray, List.getElem_cons_succ, List.getElem_cons_zero, List.setIfInBounds_toArray, List.set_cons_succ, List.set_cons_zero]
      refine wm_q2 (i := 8) (some 34) rfl rfl rfl HS2 (fun W HS => (by refine ry_load_ent _ _ _ _ ?_ (hp33 W HS) Try.underlying79 rfl sz79; rfl)) ?_
      simp only [Act.put, List.getElem_toArray, List.getElem_cons_succ, List.getElem_cons_zero, List.setIfInBounds_toArray, List.set_cons_succ, List.set_cons_zero]
      refine wm_q2 (i := 9) (some 35) rfl rfl rfl HS2 (fun W HS => by (go_simp; try with_reducible rfl)) ?_
      simp only [Act.put, List.getElem_toArray, List.getElem_cons_succ, List.getElem_cons_zero, List.setIfInBounds_toArray, List.set_cons_succ, List.set_cons_zero]
      refine wm_q2 (i := 10) (some 36) rfl rfl rfl HS2 (fun W HS => by (go_simp; try with_reducible rfl)) ?_
      simp only [Act.put, List.getElem_toArray, List.getElem_cons_succ, List.getElem_cons_zero, List.setIfInBounds_toArray, List.set_cons_succ, List.set_cons_zero]
      refine wm_q2 (i := 11) (some 37) rfl rfl rfl HS2 (fun W HS => by (go_simp; try with_reducible rfl)) ?_
      simp only [Act.put, List.getElem_toArray, List.getElem_cons_succ, List.getElem_cons_zero, List.setIfInBounds_toArray, List.set_cons_succ, List.set_cons_zero]
      refine wm_q2 (i := 13) (some 39) rfl rfl rfl HS2 (fun W HS => by (go_simp; try with_reducible rfl)) ?_
      simp only [Act.put, List.getElem_toArray, List.getElem_cons_succ, List.getElem_cons_zero, List.setIfInBounds_toArray, List.set_cons_succ, List.set_cons_zero]
      refine wm_q2 (i := 14) (some 40) rfl rfl rfl HS2 (fun W HS => by (go_simp; try with_reducible rfl)) ?_
      simp only [Act.put, List.getElem_toArray, List.getElem_cons_succ, List.getElem_cons_zero, List.setIfInBounds_toArray, List.set_cons_succ, List.set_cons_zero]
      refine wm_e0 (i := 12) rfl ?_
      go_wp2_with (first
        | (go_at_call 70; go_must (first | ((with_reducible refine (proof_c (leavesL l) k _ _ hp4 (by omega) (rd_row HM m0 rfl (by decide) encK_len)).mono ?_); rintro e W ⟨q1, rfl, HM'⟩; replace HM := HM.join HM'; clear HM'; simp only [List.cons_append, List.nil_append] at HM; have hq1 := row_cells (HM.row m0)) | ((with_reducible refine (proof_two l k hp4 hp3 _ _ (rd_row HM m1 rfl (by decide) encK_len)).mono ?_); rintro e W ⟨q2, rfl, HM'⟩; replace HM := HM.join HM'; clear HM'; simp only [List.cons_append, List.nil_append] at HM; have hq2 := row_cells (HM.row m0)))))
      refine ⟨HM.held (by simp), ?_⟩
      clear HS1 HS2
      have HS1 : Held w W [.row u1 79 2 (endL l).length ((endL l).flatMap encE)] := HM.held (by simp)
      have HS2 : Held w W [.row u1 79 2 (endL l).length ((endL l).flatMap encE)] := HM.held (by simp)
      refine wm_e0 (i := 15) rfl ?_
      go_wp2_with (first
        | (go_at_call 70; go_must (first | ((with_reducible refine (proof_c (leavesL l) k _ _ hp4 (by omega) (rd_row HM m0 rfl (by decide) encK_len)).mono ?_); rintro e W ⟨q1, rfl, HM'⟩; replace HM := HM.join HM'; clear HM'; simp only [List.cons_append, List.nil_append] at HM; have hq1 := row_cells (HM.row m0)) | ((with_reducible refine (proof_two l k hp4 hp3 _ _ (rd_row HM m1 rfl (by decide) encK_len)).mono ?_); rintro e W ⟨q2, rfl, HM'⟩; replace HM := HM.join HM'; clear HM'; simp only [List.cons_append, List.nil_append] at HM; have hq2 := row_cells (HM.row m0)))))
      refine ⟨HM.held (by simp), ?_⟩
      clear HS1 HS2
      have HS1 : Held w W [.row u1 79 2 (endL l).length ((endL l).flatMap encE)] := HM.held (by simp)
      have HS2 : Held w W [.row u1 79 2 (endL l).length ((endL l).flatMap encE)] := HM.held (by simp)
      refine wm_q2 (i := 16) (some 42) rfl rfl rfl HS2 (fun W HS => ry_build _ _ _ _ (run_build_abs _ _ _ _ _ _ _ _ hq1 hq2) rfl) ?_
      simp only [Act.put, List.getElem_toArray, List.getElem_cons_succ, List.getElem_cons_zero, List.setIfInBounds_toArray, List.set_cons_succ, List.set_cons_zero]
      refine wm_e0 (i := 17) rfl ?_
      go_wp2_with (first
        | ((with_reducible refine st_ 81 ?_); go_must (refine wl_store_blk _ _ _ _ _ _ _ rfl rfl HM (.there (.there (.there (.there .here)))) sz81 rfl (abs_one _ _ _ _ _ _ _ _ (row_one (HM.row m1)) (row_one (HM.row m0))) ?_; clear HM; intro W HM)))
      refine ⟨HM.held (by simp), ?_⟩
      clear HS1 HS2
      have HS1 : Held w W [.row u1 79 2 (endL l).length ((endL l).flatMap encE)] := HM.held (by simp)
      have HS2 : Held w W [.row u1 79 2 (endL l).length ((endL l).flatMap encE)] := HM.held (by simp)
      refine wm_q2 (i := 18) (some 5) rfl rfl rfl HS2 (fun W HS => by (go_simp; try with_reducible rfl)) ?_
      simp only [Act.put, List.getElem_toArray, List.getElem_cons_succ, List.getElem_cons_zero, List.setIfInBounds_toArray, List.set_cons_succ, List.set_cons_zero]
      refine wm_nilN ?_
      clear HS1 HS2
      go_wp2_with (fail)
      refine ret2 rfl (by (exact res_row HM rfl m4 Try.underlying81 rfl sz81)) (res_tmp rfl) rfl ?_
      exact ⟨_, _, rfl, HM.sub (.cons_cons _ (.cons_cons _ (List.nil_sublist _)))⟩
    | true =>
      have he : afE l u = 6 := by rw [afE, if_pos hf, if_pos ho]
      obtain ⟨e1, e2, e3, e4, e5, e6, e7⟩ := af_err l u 6 he (by decide)
      rw [he, e1, e2, e3, e4, e5, e6, e7]
      clear he e1 e2 e3 e4 e5 e6 e7 hf
      clear hk
      go_enter Try.func36, Try.ntmps36
      go_wp2_with (first
        | ((with_reducible refine s_ 4 ?_); go_must (refine wl_alloc (dst := some 4) (cs := #[Value.int IntKind.i64 0, Value.int IntKind.i64 0, Value.int IntKind.i64 0, Value.int IntKind.i64 0, Value.int IntKind.i64 0, Value.int IntKind.i64 0, Value.slice none 0 0, Value.int IntKind.i64 0, Value.int IntKind.i64 0, Value.slice none 0 0]) 81 _ Try.zeroValue81 rfl HM ?_; clear HM; intro b4 W HM))
        | ((with_reducible refine s_ 25 ?_); go_must (refine wl_build (dst := some 25) _ _ _ _ (run_build_abs0) rfl ?_))
        | ((with_reducible refine st_ 81 ?_); go_must ((refine wl_store_blk _ _ _ _ _ _ _ rfl rfl HM (.there (.there .here)) sz81 rfl (by simp [Value.oneCell']) ?_); clear HM; intro W HM))
        | (go_at_call 85; go_must (((with_reducible refine (find_ok _ l u _ (hR.mem HM) hv h0 h1).mono ?_)); rintro e W ⟨u1, u2, rfl, HM'⟩; replace HM := HM.join HM'; clear HM'; simp only [List.cons_append, List.nil_append] at HM)))
      refine ret2 rfl (by (exact res_row HM rfl m2 Try.underlying81 rfl sz81)) (res_tmp rfl) rfl ?_
      exact ⟨_, _, rfl, (HM.base.nilrow _ _).nilrow _ _⟩
  · have hf0 : fdE l u ≠ 0 := by
      intro hq
      cases hv : validB l with
      | false => rw [fdE_no l u hv] at hq; omega
      | true =>
        have : ¬ (0 ≤ u ∧ u < 64) := fun h => hok ⟨hv, h⟩
        rw [fdE_arg l u hv this] at hq; omega
    have he : afE l u = fdE l u := by rw [afE, if_neg hf0]
    obtain ⟨e1, e2, e3, e4, e5, e6, e7⟩ := af_err l u _ he hf0
    rw [he, e1, e2, e3, e4, e5, e6, e7]
    clear he e1 e2 e3 e4 e5 e6 e7
    have hf1 : (fdE l u == 0) = false := by simpa using hf0
    go_enter Try.func36, Try.ntmps36
    go_wp2_with (first
      | ((with_reducible refine s_ 4 ?_); go_must (refine wl_alloc (dst := some 4) (cs := #[Value.int IntKind.i64 0, Value.int IntKind.i64 0, Value.int IntKind.i64 0, Value.int IntKind.i64 0, Value.int IntKind.i64 0, Value.int IntKind.i64 0, Value.slice none 0 0, Value.int IntKind.i64 0, Value.int IntKind.i64 0, Value.slice none 0 0]) 81 _ Try.zeroValue81 rfl HM ?_; clear HM; intro b4 W HM))
      | ((with_reducible refine s_ 22 ?_); go_must (refine wl_build (dst := some 22) _ _ _ _ (run_build_abs0) rfl ?_))
      | ((with_reducible refine st_ 81 ?_); go_must ((refine wl_store_blk _ _ _ _ _ _ _ rfl rfl HM .here sz81 rfl (by simp [Value.oneCell']) ?_); clear HM; intro W HM))
      | (go_at_call 85; go_must (((with_reducible refine (find_bad _ l u _ (hR.mem HM) hl hok).mono ?_)); rintro e W ⟨rfl, HM'⟩; replace HM := HM.keep HM'.below; clear HM')))
    refine ret2 rfl (by (exact res_row HM rfl m0 Try.underlying81 rfl sz81)) (res_tmp rfl) rfl ?_
    exact ⟨_, _, rfl, (HM.base.nilrow _ _).nilrow _ _⟩
theorem until_on (l : List Ent) (u : Int) (hv : validB l = true) (ho : onB (endL l) u = true) (h0 : 0 ≤ u) (h1 : u < 64) : decide (0 ≤ untilL l u) = true := by
  cases hq : l.find? (fun x => x.1 == u) with
  | none =>
    have hn := List.find?_eq_none.1 hq
    rw [on_none l u h0 h1 (fun i x hx he => hn x (List.mem_of_getElem? hx) (by simpa using he))] at ho
    cases ho
  | some x =>
    have hm := List.mem_of_find?_eq_some hq
    have := ((valid_from l (-1) (by omega) (by omega) hv).2 x hm).2.2.1
    rw [untilL, hq]; simpa using this
theorem until_off (l : List Ent) (u : Int) (hv : validB l = true) (ho : onB (endL l) u = false) : decide (0 ≤ untilL l u) = false := by
  cases hq : l.find? (fun x => x.1 == u) with
  | none => rw [untilL, hq]; decide
  | some x =>
    have hm := List.mem_of_find?_eq_some hq
    have he : x.1 = u := by have := List.find?_some hq; simpa using this
    obtain ⟨i, hi⟩ := List.mem_iff_getElem?.1 hm
    rw [(on_at l u i x hv hi he).2] at ho; cases ho
set_option maxHeartbeats 1600000 in
theorem rProveOff_c (v : Value) (l : List Ent) (u : Int) (w : World) (hR : RdL encE 2 w v l) (hl : l.length ≤ 140737488351232) :
    Calls Try.prog 37 #[v, .int .i64 u] w fun e w' => ∃ q1 q2, e = .returned (.tuple #[absV (afLo l u) (afHi l u) (afN l u) (afI l u) q1 (afN l u) (afJ l u) q2, .int .i64 (afE l u)]) ∧
      Mem w w' [.row q2 23 16 (afQ l u).length ((afQ l u).flatMap encK), .row q1 23 16 (afP l u).length ((afP l u).flatMap encK)] := by
  have HM := Mem.start w
  cases hv : validB l with
  | false =>
    have hf := fdE_no l u hv
    have he : afE l u = 90 := by rw [afE, if_neg (by rw [hf]; decide), hf]
    obtain ⟨e1, e2, e3, e4, e5, e6, e7⟩ := af_err l u _ he (by decide)
    rw [he, e1, e2, e3, e4, e5, e6, e7]
    clear he e1 e2 e3 e4 e5 e6 e7 hf
    go_enter Try.func37, Try.ntmps37
    go_wp2_with (first
      | ((with_reducible refine s_ 4 ?_); go_must (refine wl_alloc (dst := some 4) (cs := #[Value.int IntKind.i64 0, Value.int IntKind.i64 0, Value.int IntKind.i64 0, Value.int IntKind.i64 0, Value.int IntKind.i64 0, Value.int IntKind.i64 0, Value.slice none 0 0, Value.int IntKind.i64 0, Value.int IntKind.i64 0, Value.slice none 0 0]) 81 _ Try.zeroValue81 rfl HM ?_; clear HM; intro b4 W HM))
      | ((with_reducible refine s_ 12 ?_); go_must (refine wl_build (dst := some 12) _ _ _ _ (run_build_abs0) rfl ?_))
      | ((with_reducible refine st_ 81 ?_); go_must ((refine wl_store_blk _ _ _ _ _ _ _ rfl rfl HM .here sz81 rfl (by simp [Value.oneCell']) ?_); clear HM; intro W HM))
      | (go_at_call 86; go_must (((with_reducible refine (rValidList_c _ l _ (hR.mem HM) hl).mono ?_)); rintro e W ⟨rfl, HM'⟩; replace HM := HM.keep HM'.below; clear HM')))
    refine ret2 rfl (by (exact res_row HM rfl m0 Try.underlying81 rfl sz81)) (res_tmp rfl) rfl ?_
    exact ⟨_, _, rfl, (HM.base.nilrow _ _).nilrow _ _⟩
  | true =>
    by_cases hu : 0 ≤ u ∧ u < 64
    · obtain ⟨h0, h1⟩ := hu
      have hf := fdE_ok l u hv ⟨h0, h1⟩
      have hu0 : ¬ u < 0 := by omega
      have hu1 : ¬ 64 ≤ u := by omega
      cases ho : onB (endL l) u with
      | true =>
        have he : afE l u = 6 := by rw [afE, if_pos hf, if_pos ho]
        have hun := until_on l u hv ho h0 h1
        obtain ⟨e1, e2, e3, e4, e5, e6, e7⟩ := af_err l u 6 he (by decide)
        rw [he, e1, e2, e3, e4, e5, e6, e7]
        clear he e1 e2 e3 e4 e5 e6 e7 hf
        go_enter Try.func37, Try.ntmps37
        go_wp2_with (first
          | ((with_reducible refine s_ 4 ?_); go_must (refine wl_alloc (dst := some 4) (cs := #[Value.int IntKind.i64 0, Value.int IntKind.i64 0, Value.int IntKind.i64 0, Value.int IntKind.i64 0, Value.int IntKind.i64 0, Value.int IntKind.i64 0, Value.slice none 0 0, Value.int IntKind.i64 0, Value.int IntKind.i64 0, Value.slice none 0 0]) 81 _ Try.zeroValue81 rfl HM ?_; clear HM; intro b4 W HM))
          | ((with_reducible refine s_ 24 ?_); go_must (refine wl_build (dst := some 24) _ _ _ _ (run_build_abs0) rfl ?_))
          | ((with_reducible refine st_ 81 ?_); go_must ((refine wl_store_blk _ _ _ _ _ _ _ rfl rfl HM .here sz81 rfl (by simp [Value.oneCell']) ?_); clear HM; intro W HM))
          | (go_at_call 86; go_must (((with_reducible refine (rValidList_c _ l _ (hR.mem HM) hl).mono ?_)); rintro e W ⟨rfl, HM'⟩; replace HM := HM.keep HM'.below; clear HM'))
          | (go_at_call 88; go_must (((with_reducible refine (rUntil_c _ l u _ (hR.mem HM) hl).mono ?_)); rintro e W ⟨rfl, HM'⟩; replace HM := HM.keep HM'.below; clear HM')))
        refine ret2 rfl (by (exact res_row HM rfl m0 Try.underlying81 rfl sz81)) (res_tmp rfl) rfl ?_
        exact ⟨_, _, rfl, (HM.base.nilrow _ _).nilrow _ _⟩
      | false =>
        have hun := until_off l u hv ho
        obtain ⟨p1, p2⟩ := pos_facts l u h0 h1
        obtain ⟨k, hk⟩ : ∃ k, posE (endL l) u = k + 1 := ⟨posE (endL l) u - 1, by omega⟩
        obtain ⟨x, hx⟩ : ∃ x, (endL l)[k]? = some x := ⟨_, List.getElem?_eq_getElem (by omega)⟩
        obtain ⟨y, hy⟩ : ∃ y, (endL l)[k + 1]? = some y := ⟨_, List.getElem?_eq_getElem (by omega)⟩
        obtain ⟨e1, e2, e3, e4, e5, e6, e7, e8⟩ := af_ok l u x y k hf ho hk hx hy
        rw [e1, e2, e3, e4, e5, e6, e7, e8]
        clear e1 e2 e3 e4 e5 e6 e7 e8 hf
        have hll := leavesL_len l
        have hel := endL_len l
        have hvl := valid_len l hv
        have hE := valid_ent l hv
        have hp3 : k + 1 < (leavesL l).length := by omega
        have hp4 : (leavesL l).length ≤ 256 := by omega
        have hp5 : (k : Int) + 1 < ((endL l).length : Int) := by omega
        have hp7 : (k : Int) < ((endL l).length : Int) := by omega
        have hp6 : (0 : Int) ≤ (k : Int) + 1 := by omega
        have hx2 : (endL l)[((k : Int)).toNat]? = some x := by rw [Int.toNat_natCast]; exact hx
        have hy2 : (endL l)[((k : Int) + 1).toNat]? = some y := by rw [show ((k : Int) + 1).toNat = k + 1 by omega]; exact hy
        have hge : u ≤ y.1 := pos_at (endL l) u y (by rw [hk]; exact hy)
        have hlo : ∀ (j : Nat) (z : Ent), j < k → (endL l)[j + 1]? = some z → z.1 < u := fun j z hj hz => pos_lo (endL l) u (j + 1) z (by omega) hz
        have hkb : k ≤ 100 := by omega
        have hel2 : k + 1 < (endL l).length := by omega
        clear hll hel hk ho hx hy
        go_enter Try.func37, Try.ntmps37
        go_wp2_with (first
          | ((with_reducible refine s_ 4 ?_); go_must (refine wl_alloc (dst := some 4) (cs := #[Value.int IntKind.i64 0, Value.int IntKind.i64 0, Value.int IntKind.i64 0, Value.int IntKind.i64 0, Value.int IntKind.i64 0, Value.int IntKind.i64 0, Value.slice none 0 0, Value.int IntKind.i64 0, Value.int IntKind.i64 0, Value.slice none 0 0]) 81 _ Try.zeroValue81 rfl HM ?_; clear HM; intro b4 W HM))
          | (go_at_call 86; go_must (((with_reducible refine (rValidList_c _ l _ (hR.mem HM) hl).mono ?_)); rintro e W ⟨rfl, HM'⟩; replace HM := HM.keep HM'.below; clear HM'))
          | (go_at_call 88; go_must (((with_reducible refine (rUntil_c _ l u _ (hR.mem HM) hl).mono ?_)); rintro e W ⟨rfl, HM'⟩; replace HM := HM.keep HM'.below; clear HM'))
          | (go_at_call 89; go_must (((with_reducible refine (rEnded_c _ l _ (hR.mem HM) hvl).mono ?_)); rintro e W ⟨u26, rfl, HM'⟩; replace HM := HM.join HM'; clear HM'; simp only [List.cons_append, List.nil_append] at HM))
          | (go_at_call 87; go_must (((with_reducible refine (rLeaves_c _ l _ (hR.mem HM) hvl hE).mono ?_)); rintro e W ⟨u28, rfl, HM'⟩; replace HM := HM.join HM'; clear HM'; simp only [List.cons_append, List.nil_append] at HM)))
        go_loopw [8] (fun c wr => ∃ i : Nat, i ≤ k ∧ c = .int .i64 i ∧ Mem w wr [.row u28 23 16 (leavesL l).length ((leavesL l).flatMap encK), .row u26 79 2 (endL l).length ((endL l).flatMap encE), .blk b4 #[.int .i64 0, .int .i64 0, .int .i64 0, .int .i64 0, .int .i64 0, .int .i64 0, .slice none 0 0, .int .i64 0, .int .i64 0, .slice none 0 0] 81])
          (fun c _ => k - (intOf c).toNat)
        case atStart => exact ⟨0, by omega, rfl, HM⟩
        case round =>
          clear HM
          obtain ⟨i, hi, rfl, HM⟩ := hrel
          by_cases hlt : i < k
          · obtain ⟨z, hz⟩ : ∃ z, (endL l)[i + 1]? = some z := ⟨_, List.getElem?_eq_getElem (by omega)⟩
            have hzu := hlo i z hlt hz
            have hz2 : (endL l)[((i : Int) + 1).toNat]? = some z := by rw [show ((i : Int) + 1).toNat = i + 1 by omega]; exact hz
            have hb1 : (i : Int) + 1 < ((endL l).length : Int) := by omega
            have hb2 : (0 : Int) ≤ (i : Int) + 1 := by omega
            have hzd : decide (z.1 < u) = true := by simpa using hzu
            clear hlo
            go_wp2_with (first
              | ((with_reducible refine s_ 32 ?_); go_must ((refine wl_index (dst := some 32) _ 79 _ _ _ _ _ _ _ encE_len Try.underlying77 sz79 rfl rfl (rd_row HM m1 rfl (by decide) encE_len) (by omega) (by first | assumption | simp [*]) ?_); intro p32 hp32; obtain ⟨bb32, oo32, hpe32, -⟩ := id hp32; subst hpe32))
              | ((with_reducible refine s_ 34 ?_); go_must (refine wl_load_at1 (dst := some 34) _ _ _ _ _ rfl (At.e0 hp32) Try.underlying3 rfl ?_)))
            go_roundw
            case rel => exact ⟨i + 1, by omega, by go_num, HM⟩
            case measure => simp [intOf]; omega
          · obtain rfl : k = i := by omega
            have hzd : decide (y.1 < u) = false := by simpa using hge
            have hw3 : IntKind.i64.wrap ((k : Int) + 1) = (k : Int) + 1 := by rw [IntKind.wrap_i64]; omega
            clear hlo
            go_wp2_with (first
              | ((with_reducible refine s_ 32 ?_); go_must ((refine wl_index (dst := some 32) _ 79 _ _ _ _ _ _ _ encE_len Try.underlying77 sz79 rfl rfl (rd_row HM m1 rfl (by decide) encE_len) (by omega) (by first | assumption | simp [*]) ?_); intro p32 hp32; obtain ⟨bb32, oo32, hpe32, -⟩ := id hp32; subst hpe32))
              | ((with_reducible refine s_ 34 ?_); go_must (refine wl_load_at1 (dst := some 34) _ _ _ _ _ rfl (At.e0 hp32) Try.underlying3 rfl ?_)))
            replace HM := HM.drew
            refine wp_region_mixN (fun W => Held w W [.row u26 79 2 (endL l).length ((endL l).flatMap encE)]) (fun W => Held w W [.row u26 79 2 (endL l).length ((endL l).flatMap encE)]) (.cons (2, 0) (.cons (2, 1) (.cons (2, 2) (.cons (2, 3) (.cons (2, 4) (.cons (2, 5) (.cons (2, 6) (.cons (2, 7) (.cons (2, 8) (.cons (2, 9) (.cons (2, 10) (.cons (2, 12) (.cons (2, 13) (.cons (2, 14) (.cons (0, 11) (.cons (0, 15) (.cons (2, 16) (.cons (0, 17) (.cons (2, 18) .nil))))))))))))))))))) [] (by kernel_rfl) (by kernel_rfl) (by kernel_rfl) (fun W h => Held.weak h (by simp)) (HM.held (by simp)) ?_
            revert HM; generalize World.drew _ = W; intro HM
            have HS1 : Held w W [.row u26 79 2 (endL l).length ((endL l).flatMap encE)] := HM.held (by simp)
            have HS2 : Held w W [.row u26 79 2 (endL l).length ((endL l).flatMap encE)] := HM.held (by simp)
            refine wm_q2 (i := 0) (some 39) rfl rfl rfl HS2 (fun W HS => by (go_simp; try with_reducible rfl)) ?_
            simp only [Act.put, List.getElem_toArray, List.getElem_cons_succ, List.getElem_cons_zero, List.setIfInBounds_toArray, List.set_cons_succ, List.set_cons_zero]
            refine wm_q2 (i := 1) (some 40) rfl rfl rfl HS2 (fun W HS => by (go_simp; try with_reducible rfl)) ?_
            simp only [Act.put, List.getElem_toArray, List.getElem_cons_succ, List.getElem_cons_zero, List.setIfInBounds_toArray, List.set_cons_succ, List.set_cons_zero]
            (refine wm_q2x (i := 2) (some 41) rfl rfl rfl HS2 (ry_index _ 79 _ _ _ _ _ _ _ (fun W => Held w W [.row u26 79 2 (endL l).length ((endL l).flatMap encE)]) W encE_len Try.underlying77 sz79 HS2 (fun W HS => rd_rowH HS m0 rfl (by decide) encE_len) rfl rfl (by omega) (by first | assumption | simp [*])) ?_); intro p41 hp41; obtain ⟨bb41, oo41, hpe41, -⟩ := hp41 W HS2; subst hpe41
            simp only [Act.put, List.getElem_toArray, List.getElem_cons_succ, List.getElem_cons_zero, List.setIfInBounds_toArray, List.set_cons_succ, List.set_cons_zero]
            refine wm_q2 (i := 3) (some 42) rfl rfl rfl HS2 (fun W HS => (by refine ry_load_ent _ _ _ _ ?_ (hp41 W HS) Try.underlying79 rfl sz79; rfl)) ?_
            simp only [Act.put, List.getElem_toArray, List.getElem_cons_succ, List.getElem_cons_zero, List.setIfInBounds_toArray, List.set_cons_succ, List.set_cons_zero]
            refine wm_q2 (i := 4) (some 43) rfl rfl rfl HS2 (fun W HS => by (go_simp; try with_reducible rfl)) ?_
            simp only [Act.put, List.getElem_toArray, List.getElem_cons_succ, List.getElem_cons_zero, List.setIfInBounds_toArray, List.set_cons_succ, List.set_cons_zero]
            refine wm_q2 (i := 5) (some 44) rfl rfl rfl HS2 (fun W HS => by (go_simp; try with_reducible rfl)) ?_
            simp only [Act.put, List.getElem_toArray, List.getElem_cons_succ, List.getElem_cons_zero, List.setIfInBounds_toArray, List.set_cons_succ, List.set_cons_zero]
            refine wm_q2 (i := 6) (some 45) rfl rfl rfl HS2 (fun W HS => by (go_simp; try with_reducible rfl)) ?_
            simp only [Act.put, List.getElem_toArray, List.getElem_cons_succ, List.getElem_cons_zero, List.setIfInBounds_toArray, List.set_cons_succ, List.set_cons_zero]
            (refine wm_q2x (i := 7) (some 46) rfl rfl rfl HS2 (ry_index _ 79 _ _ _ _ _ _ _ (fun W => Held w W [.row u26 79 2 (endL l).length ((endL l).flatMap encE)]) W encE_len Try.underlying77 sz79 HS2 (fun W HS => rd_rowH HS m0 rfl (by decide) encE_len) rfl rfl (by omega) (by first | assumption | simp [*])) ?_); intro p46 hp46; obtain ⟨bb46, oo46, hpe46, -⟩ := hp46 W HS2; subst hpe46
            simp only [Act.put, List.getElem_toArray, List.getElem_cons_succ, List.getElem_cons_zero, List.setIfInBounds_toArray, List.set_cons_succ, List.set_cons_zero]
            refine wm_q2 (i := 8) (some 47) rfl rfl rfl HS2 (fun W HS => (by refine ry_load_ent _ _ _ _ ?_ (hp46 W HS) Try.underlying79 rfl sz79; rfl)) ?_
            simp only [Act.put, List.getElem_toArray, List.getElem_cons_succ, List.getElem_cons_zero, List.setIfInBounds_toArray, List.set_cons_succ, List.set_cons_zero]
            refine wm_q2 (i := 9) (some 48) rfl rfl rfl HS2 (fun W HS => by (go_simp; try with_reducible rfl)) ?_
            simp only [Act.put, List.getElem_toArray, List.getElem_cons_succ, List.getElem_cons_zero, List.setIfInBounds_toArray, List.set_cons_succ, List.set_cons_zero]
            refine wm_q2 (i := 10) (some 49) rfl rfl rfl HS2 (fun W HS => by (go_simp; try with_reducible rfl)) ?_
            simp only [Act.put, List.getElem_toArray, List.getElem_cons_succ, List.getElem_cons_zero, List.setIfInBounds_toArray, List.set_cons_succ, List.set_cons_zero]
            refine wm_q2 (i := 12) (some 51) rfl rfl rfl HS2 (fun W HS => by (go_simp; try with_reducible rfl)) ?_
            simp only [Act.put, List.getElem_toArray, List.getElem_cons_succ, List.getElem_cons_zero, List.setIfInBounds_toArray, List.set_cons_succ, List.set_cons_zero]
            refine wm_q2 (i := 13) (some 52) rfl rfl rfl HS2 (fun W HS => by (go_simp; try with_reducible rfl)) ?_
            simp only [Act.put, List.getElem_toArray, List.getElem_cons_succ, List.getElem_cons_zero, List.setIfInBounds_toArray, List.set_cons_succ, List.set_cons_zero]
            refine wm_q2 (i := 14) (some 53) rfl rfl rfl HS2 (fun W HS => by (go_simp; try with_reducible rfl)) ?_
            simp only [Act.put, List.getElem_toArray, List.getElem_cons_succ, List.getElem_cons_zero, List.setIfInBounds_toArray, List.set_cons_succ, List.set_cons_zero]
            refine wm_e0 (i := 11) rfl ?_
            go_wp2_with (first
              | (go_at_call 71; go_must (first | ((with_reducible refine (rproofOf_c (leavesL l) k _ _ hp4 (by omega) (rd_row HM m0 rfl (by decide) encK_len)).mono ?_); rintro e W ⟨q1, rfl, HM'⟩; replace HM := HM.join HM'; clear HM'; simp only [List.cons_append, List.nil_append] at HM; have hq1 := row_cells (HM.row m0)) | ((with_reducible refine (rproof_two l k hp4 hp3 _ _ (rd_row HM m1 rfl (by decide) encK_len)).mono ?_); rintro e W ⟨q2, rfl, HM'⟩; replace HM := HM.join HM'; clear HM'; simp only [List.cons_append, List.nil_append] at HM; have hq2 := row_cells (HM.row m0)))))
            refine ⟨HM.held (by simp), ?_⟩
            clear HS1 HS2
            have HS1 : Held w W [.row u26 79 2 (endL l).length ((endL l).flatMap encE)] := HM.held (by simp)
            have HS2 : Held w W [.row u26 79 2 (endL l).length ((endL l).flatMap encE)] := HM.held (by simp)
            refine wm_e0 (i := 15) rfl ?_
            go_wp2_with (first
              | (go_at_call 71; go_must (first | ((with_reducible refine (rproofOf_c (leavesL l) k _ _ hp4 (by omega) (rd_row HM m0 rfl (by decide) encK_len)).mono ?_); rintro e W ⟨q1, rfl, HM'⟩; replace HM := HM.join HM'; clear HM'; simp only [List.cons_append, List.nil_append] at HM; have hq1 := row_cells (HM.row m0)) | ((with_reducible refine (rproof_two l k hp4 hp3 _ _ (rd_row HM m1 rfl (by decide) encK_len)).mono ?_); rintro e W ⟨q2, rfl, HM'⟩; replace HM := HM.join HM'; clear HM'; simp only [List.cons_append, List.nil_append] at HM; have hq2 := row_cells (HM.row m0)))))
            refine ⟨HM.held (by simp), ?_⟩
            clear HS1 HS2
            have HS1 : Held w W [.row u26 79 2 (endL l).length ((endL l).flatMap encE)] := HM.held (by simp)
            have HS2 : Held w W [.row u26 79 2 (endL l).length ((endL l).flatMap encE)] := HM.held (by simp)
            refine wm_q2 (i := 16) (some 55) rfl rfl rfl HS2 (fun W HS => ry_build _ _ _ _ (run_build_abs _ _ _ _ _ _ _ _ hq1 hq2) rfl) ?_
            simp only [Act.put, List.getElem_toArray, List.getElem_cons_succ, List.getElem_cons_zero, List.setIfInBounds_toArray, List.set_cons_succ, List.set_cons_zero]
            refine wm_e0 (i := 17) rfl ?_
            go_wp2_with (first
              | ((with_reducible refine st_ 81 ?_); go_must (refine wl_store_blk _ _ _ _ _ _ _ rfl rfl HM (.there (.there (.there (.there .here)))) sz81 rfl (abs_one _ _ _ _ _ _ _ _ (row_one (HM.row m1)) (row_one (HM.row m0))) ?_; clear HM; intro W HM)))
            refine ⟨HM.held (by simp), ?_⟩
            clear HS1 HS2
            have HS1 : Held w W [.row u26 79 2 (endL l).length ((endL l).flatMap encE)] := HM.held (by simp)
            have HS2 : Held w W [.row u26 79 2 (endL l).length ((endL l).flatMap encE)] := HM.held (by simp)
            refine wm_q2 (i := 18) (some 5) rfl rfl rfl HS2 (fun W HS => by (go_simp; try with_reducible rfl)) ?_
            simp only [Act.put, List.getElem_toArray, List.getElem_cons_succ, List.getElem_cons_zero, List.setIfInBounds_toArray, List.set_cons_succ, List.set_cons_zero]
            refine wm_nilN ?_
            clear HS1 HS2
            go_wp2_with (fail)
            refine ret2 rfl (by (exact res_row HM rfl m4 Try.underlying81 rfl sz81)) (res_tmp rfl) rfl ?_
            exact ⟨_, _, rfl, HM.sub (.cons_cons _ (.cons_cons _ (List.nil_sublist _)))⟩
    · have hf := fdE_arg l u hv hu
      have he : afE l u = 2 := by rw [afE, if_neg (by rw [hf]; decide), hf]
      obtain ⟨e1, e2, e3, e4, e5, e6, e7⟩ := af_err l u _ he (by decide)
      rw [he, e1, e2, e3, e4, e5, e6, e7]
      clear he e1 e2 e3 e4 e5 e6 e7 hf
      by_cases hu0 : u < 0
      all_goals
        (try have hu1 : 64 ≤ u := by omega)
        clear hu
        go_enter Try.func37, Try.ntmps37
        go_wp2_with (first
          | ((with_reducible refine s_ 4 ?_); go_must (refine wl_alloc (dst := some 4) (cs := #[Value.int IntKind.i64 0, Value.int IntKind.i64 0, Value.int IntKind.i64 0, Value.int IntKind.i64 0, Value.int IntKind.i64 0, Value.int IntKind.i64 0, Value.slice none 0 0, Value.int IntKind.i64 0, Value.int IntKind.i64 0, Value.slice none 0 0]) 81 _ Try.zeroValue81 rfl HM ?_; clear HM; intro b4 W HM))
          | ((with_reducible refine s_ 19 ?_); go_must (refine wl_build (dst := some 19) _ _ _ _ (run_build_abs0) rfl ?_))
          | ((with_reducible refine st_ 81 ?_); go_must ((refine wl_store_blk _ _ _ _ _ _ _ rfl rfl HM .here sz81 rfl (by simp [Value.oneCell']) ?_); clear HM; intro W HM))
          | (go_at_call 86; go_must (((with_reducible refine (rValidList_c _ l _ (hR.mem HM) hl).mono ?_)); rintro e W ⟨rfl, HM'⟩; replace HM := HM.keep HM'.below; clear HM')))
        refine ret2 rfl (by (exact res_row HM rfl m0 Try.underlying81 rfl sz81)) (res_tmp rfl) rfl ?_
        exact ⟨_, _, rfl, (HM.base.nilrow _ _).nilrow _ _⟩
end
section
set_option linter.unusedVariables false
set_option linter.unusedSimpArgs false
set_option maxRecDepth 8000
open Go.RowKit
def partL (l : List Key) (m : Nat) (wh : Bool) : List Key :=
  if h : l.length ≤ m ∨ l.length ≤ 1 then (if wh then [] else [rootL l])
  else if m ≤ splitN l.length then partL (l.take (splitN l.length)) m wh ++ [rootL (l.drop (splitN l.length))]
  else partL (l.drop (splitN l.length)) (m - splitN l.length) false ++ [rootL (l.take (splitN l.length))]
termination_by l.length
decreasing_by
  · have := splitN_lt l.length (by omega); simp; omega
  · have := splitN_lt l.length (by omega); simp; omega
theorem partL_whole (l : List Key) (m : Nat) (h : l.length ≤ m) : partL l m true = [] := by rw [partL, dif_pos (.inl h), if_pos rfl]
theorem partL_lo (l : List Key) (m : Nat) (wh : Bool) (h1 : 1 ≤ m) (h : m < l.length) (hi : m ≤ splitN l.length) : partL l m wh = partL (l.take (splitN l.length)) m wh ++ [rootL (l.drop (splitN l.length))] := by
  rw [partL, dif_neg (by omega), if_pos hi]
theorem partL_hi (l : List Key) (m : Nat) (wh : Bool) (h1 : 1 ≤ m) (h : m < l.length) (hi : ¬ m ≤ splitN l.length) : partL l m wh = partL (l.drop (splitN l.length)) (m - splitN l.length) false ++ [rootL (l.take (splitN l.length))] := by
  rw [partL, dif_neg (by omega), if_neg hi]
end
section
set_option linter.unusedVariables false
set_option linter.unusedSimpArgs false
set_option maxRecDepth 8000
open Go.RowKit
def PartInv (l : List Key) (m : Nat) (l' : List Key) (m' : Nat) (wh : Bool) (acc : List Key) : Prop := partL l m true = partL l' m' wh ++ acc.reverse
theorem PartInv.start (l : List Key) (m : Nat) : PartInv l m l m true [] := by simp [PartInv]
theorem PartInv.lo {l l' acc : List Key} {m m' : Nat} {wh : Bool} (h : PartInv l m l' m' wh acc) (h1 : 1 ≤ m') (h2 : m' < l'.length) (hi : m' ≤ splitN l'.length) : PartInv l m (l'.take (splitN l'.length)) m' wh (acc ++ [rootL (l'.drop (splitN l'.length))]) := by
  rw [PartInv, h, partL_lo l' m' wh h1 h2 hi]; simp
theorem PartInv.hi {l l' acc : List Key} {m m' : Nat} {wh : Bool} (h : PartInv l m l' m' wh acc) (h1 : 1 ≤ m') (h2 : m' < l'.length) (hi : ¬ m' ≤ splitN l'.length) : PartInv l m (l'.drop (splitN l'.length)) (m' - splitN l'.length) false (acc ++ [rootL (l'.take (splitN l'.length))]) := by
  rw [PartInv, h, partL_hi l' m' wh h1 h2 hi]; simp
theorem PartInv.done {l l' acc : List Key} {m m' : Nat} (h : PartInv l m l' m' true acc) (h1 : l'.length ≤ m') : acc.reverse = partL l m true := by
  rw [h, partL_whole l' m' h1]; simp
end
section
set_option linter.unusedVariables false
set_option linter.unusedSimpArgs false
set_option maxRecDepth 8000
open Go.RowKit
def rowT (p : Value × List UInt8) : It := .row p.1 5 1 p.2.length (p.2.flatMap encB)
def valsT (us : List (Value × List UInt8)) : List Value := (us.map (·.1)).flatMap encV
def Tx (us : List (Value × List UInt8)) (R : List It) : Prop := ∀ p ∈ us, rowT p ∈ R
theorem Tx.nil (R : List It) : Tx [] R := by intro p hp; cases hp
theorem Tx.mono {us : List (Value × List UInt8)} {R S : List It} (h : Tx us R) (hs : ∀ x ∈ R, x ∈ S) : Tx us S := fun p hp => hs _ (h p hp)
theorem Tx.app {us vs : List (Value × List UInt8)} {R : List It} (h : Tx us R) (h' : Tx vs R) : Tx (us ++ vs) R := fun p hp => by
  rcases List.mem_append.1 hp with hp | hp
  · exact h p hp
  · exact h' p hp
theorem Tx.one {p : Value × List UInt8} {R : List It} (h : rowT p ∈ R) : Tx [p] R := fun q hq => by rw [List.mem_singleton.1 hq]; exact h
theorem valsT_snoc (us : List (Value × List UInt8)) (p : Value) (x : List UInt8) : valsT us ++ [p].flatMap encV = valsT (us ++ [(p, x)]) := by simp [valsT, encV]
theorem Mem.rot1 {w0 W : World} {x y z : It} {L : List It} (h : Mem w0 W (x :: y :: z :: L)) : Mem w0 W (y :: z :: x :: L) :=
  h.perm ((List.Perm.swap y x (z :: L)).trans (List.Perm.cons y (List.Perm.swap z x L)))
theorem Mem.sink2 {w0 W : World} {x y : It} {A B : List It} {z : It} (h : Mem w0 W (x :: y :: (A ++ z :: B))) : Mem w0 W (x :: y :: z :: (A ++ B)) :=
  h.perm (List.Perm.cons x (List.Perm.cons y List.perm_middle))
theorem Mem.fetch2 {w0 W : World} {p c d x y : It} {L : List It} (h : Mem w0 W (p :: c :: d :: x :: y :: L)) : Mem w0 W (x :: y :: p :: c :: d :: L) :=
  h.perm (List.perm_append_comm_assoc [p, c, d] [x, y] L)
theorem Mem.drop5 {w0 W : World} {x y p c d : It} {L : List It} (h : Mem w0 W (x :: y :: p :: c :: d :: L)) : Mem w0 W (x :: y :: p :: L) :=
  h.sub (List.Sublist.cons_cons _ (List.Sublist.cons_cons _ (List.Sublist.cons_cons _ (List.Sublist.cons _ (List.sublist_cons_self _ _)))))
theorem fill_val (p : Value) (hp : p.cells = #[p]) : Instr.fill (fun i => some (i * 1, 1)) ((Array.range (1 * 1)).map ((Value.slice none 0 0).cells[· % (Value.slice none 0 0).cells.size]!)) [(0, p)] = some #[p] := by
  have hz : (Array.range (1 * 1)).map ((Value.slice none 0 0).cells[· % (Value.slice none 0 0).cells.size]!) = #[.slice none 0 0] := by kernel_rfl
  rw [hz]
  simp [Instr.fill, hp]
section
variable {P : Program} {ops : Array Oper} {rest : List Oper} {a : Act} {Q : Exit → Act → World → Prop} {w0 W : World} {L : List It} {dst : Option Tmp} {tt : TypeId} {ps : String} {af : Array Edge}
theorem wl_slice1V (t e : TypeId) (x : Operand) (p : Value) (ht : P.underlying t = some (.slice e)) (hs : ∀ w, (sizeOf e).run P w = .ok 1 w) (hz : ∀ w, (zeroValue e).run P w = .ok (.slice none 0 0) w) (hp : p.cells = #[p])
    (hx : a.eval x = p) (HM : Mem w0 W L) (h : ∀ b W', Mem w0 W' (.blk b #[p] e :: L) → wpList P ops Q rest (a.put dst (.slice (some ⟨b, 0, none⟩) 1 1)) W') :
    wpList P ops Q (Oper.mk dst (.buildSlice t 1 #[(0, x)]) tt ps af none :: rest) a W :=
  wl_buildSlice (dst := dst) (cs := #[p]) t 1 #[(0, x)] e 1 (.slice none 0 0) ht hs hz (by decide) (by simp only [List.map_toArray, List.map_cons, List.map_nil, hx]; exact fill_val p hp) HM h
theorem wl_appendM {α : Type} {enc : α → List Value} {f : It → List It} (s x : Operand) (t e : TypeId) (z : Value) (size bytes : Nat) (v xv : Value) (n : Nat) (xs : List Value) (l : List α)
    (ht : P.underlying t = some (.slice e)) (hinfo : (P.info? e).map (fun i => (i.zero, i.size, i.bytes)) = some (some z, size, bytes)) (hzs : z.cells.size = size) (hsz : 0 < size) (he : ∀ x, (enc x).length = size) (h1 : ∀ x ∈ l, ∀ u ∈ enc x, u.oneCell' = true)
    (HM : Mem w0 W L) (hk : Spot (.row v e size n xs) L f) (hR : RdL enc size W xv l) (hs : a.eval s = v) (hx : a.eval x = xv) (hb0 : 0 < bytes) (hb : (n + l.length) * bytes ≤ 140737488355328)
    (h : ∀ v' W', Mem w0 W' (f (.row v' e size (n + l.length) (xs ++ l.flatMap enc))) → wpList P ops Q rest (a.put dst v') W') :
    wpList P ops Q (Oper.mk dst (.call { callee := .builtin .append, args := #[s, x], argTypes := #[t, t] }) tt ps af none :: rest) a W := by
  obtain ⟨i0, hi, hz0, hz1, hz2⟩ := info_parts hinfo
  have hown := HM.row hk.mem
  have hlen : n + l.length ≤ 140737488355328 := Nat.le_trans (Nat.le_mul_of_pos_right _ hb0) hb
  obtain ⟨A, c, rfl, hc, hcm, hr⟩ := hR
  refine wpList_plain rfl fun K hK => ?_
  have key : ∃ v' W', (Builtin.append_ #[t, t] tt #[v, .slice A l.length c]).run P W = .ok v' W' ∧ Mem w0 W' (f (.row v' e size (n + l.length) (xs ++ l.flatMap enc))) := by
    rcases Nat.eq_zero_or_pos l.length with h0 | h0
    · have hl : l = [] := List.eq_nil_of_length_eq_zero h0
      subst hl
      refine ⟨v, W, ?_, ?_⟩
      · rcases hown.2 with ⟨rfl, rfl⟩ | ⟨g, cap, cur, rfl, _, _, hnc, _⟩
        · cases A <;> simp [Builtin.append_, run_underlying ht, sizeOf, typeInfo, hi, Builtin.lenOf, Builtin.firstCells, loadCells, loadCellsFrom]
        · cases A <;> simp [Builtin.append_, run_underlying ht, sizeOf, typeInfo, hi, Builtin.lenOf, Builtin.firstCells, hnc, storeCells, loadCells, loadCellsFrom]
      · have hset : f (.row v e size (n + ([] : List α).length) (xs ++ ([] : List α).flatMap enc)) = L := by
          simp only [List.length_nil, Nat.add_zero, List.flatMap_nil, List.append_nil]
          exact hk.self
        rw [hset]; exact HM
    · obtain ⟨b, o, rfl, hra⟩ := hr (fun e => by simp [e] at h0)
      obtain ⟨v', W', hrun, h2, h3, _, h5⟩ := run_append_own_at (P := P) W w0.heap.size t tt e i0 z size bytes ht hi hz0 hz1 hz2 hzs hsz v n xs hown ⟨b, o, none⟩ l.length c (l.flatMap enc) (flatMap_length he l)
        (fun j u hu => by rw [Addr.add_mid]; exact hra j u hu) (fun u hu => by obtain ⟨x, hxl, hx⟩ := List.mem_flatMap.1 hu; exact h1 x hxl u hx) (by simp only [maxLen]; omega) hb HM.size
      refine ⟨v', W', hrun, HM.turn (hk.repl _) h3 h2 (fun b' hb' => ?_)⟩
      simp only [It.at] at hb' ⊢
      rcases h5 with h5 | h5
      · exact .inl (by rw [← h5]; exact hb')
      · exact .inr (by rw [h5] at hb'; injection hb' with hb'; omega)
  obtain ⟨v', W', hrun, hM⟩ := key
  have h1 := h v' W' hM
  unfold Oper.wp execOp
  simp only [resolve, invoke, builtin, Sem.run_bind, Sem.run_pure, Result.andThen_ok, List.map_toArray, List.map_cons, List.map_nil, hs, hx, hrun]
  exact hK _ _ h1
end
theorem encV_one (p : Value) (h : p.oneCell' = true) : ∀ u ∈ encV p, u.oneCell' = true := by
  intro u hu; simp only [encV, List.mem_singleton] at hu; subst hu; exact h
theorem leafTextT (k : Key) (w : World) : Calls Try.prog 66 #[.agg (kc k)] w fun e w' => ∃ v, e = .returned v ∧ Mem w w' [rowT (v, textLeaf k)] :=
  (leafText_c k w).mono fun e w' ⟨v, h1, h2⟩ => ⟨v, h1, by simpa only [rowT, textLeaf_len] using h2⟩
theorem nodeTextT (a b : Key) (w : World) : Calls Try.prog 68 #[.agg (kc a), .agg (kc b)] w fun e w' => ∃ v, e = .returned v ∧ Mem w w' [rowT (v, textNode a b)] :=
  (nodeText_c a b w).mono fun e w' ⟨v, h1, h2⟩ => ⟨v, h1, by simpa only [rowT, textNode_len] using h2⟩
theorem rleafTextT (k : Key) (w : World) : Calls Try.prog 126 #[.agg (kc k)] w fun e w' => ∃ v, e = .returned v ∧ Mem w w' [rowT (v, textLeaf k)] :=
  (rleafText_c k w).mono fun e w' ⟨v, h1, h2⟩ => ⟨v, h1, by simpa only [rowT, textLeaf_len] using h2⟩
theorem rnodeTextT (a b : Key) (w : World) : Calls Try.prog 128 #[.agg (kc a), .agg (kc b)] w fun e w' => ∃ v, e = .returned v ∧ Mem w w' [rowT (v, textNode a b)] :=
  (rnodeText_c a b w).mono fun e w' ⟨v, h1, h2⟩ => ⟨v, h1, by simpa only [rowT, textNode_len] using h2⟩
theorem rd_text {w0 W : World} {L : List It} {p : Value} {x : List UInt8} (h : Mem w0 W L) (hk : rowT (p, x) ∈ L) : RdL encB 1 W p x := rd_row h hk rfl
theorem text_cells {w0 W : World} {L : List It} {p : Value} {x : List UInt8} (h : Mem w0 W L) (hk : rowT (p, x) ∈ L) : p.cells = #[p] := row_cells (h.row hk)
theorem text_one {w0 W : World} {L : List It} {p : Value} {x : List UInt8} (h : Mem w0 W L) (hk : rowT (p, x) ∈ L) : p.oneCell' = true := row_one (h.row hk)
section
attribute [local irreducible] rowT
set_option maxHeartbeats 800000 in
theorem take_c (w0 W : World) (b : Nat) (u p : Value) (us : List (Value × List UInt8)) (x : List UInt8) (L : List It) (HM : Mem w0 W (.blk b #[u] 119 :: .row u 24 1 us.length (valsT us) :: L))
    (hx : rowT (p, x) ∈ L) (hxl : x.length ≤ 16384) (hus : us.length ≤ 1000000) :
    Calls Try.prog 65 #[.pointer (some ⟨b, 0, none⟩), p] W fun e W' => ∃ u', e = .returned (.agg (kc (digestL x))) ∧ Mem w0 W' (.blk b #[u'] 119 :: .row u' 24 1 (us ++ [(p, x)]).length (valsT (us ++ [(p, x)])) :: L) := by
  have hp := text_cells HM (List.mem_cons_of_mem _ (List.mem_cons_of_mem _ hx))
  have hp1 := text_one HM (List.mem_cons_of_mem _ (List.mem_cons_of_mem _ hx))
  go_enter Try.func65, Try.ntmps65
  go_wp2_with (first
    | ((with_reducible refine st_ 119 ?_); go_must (have hu1 := row_one (HM.row m3); refine wl_store_cell _ _ _ _ _ _ _ _ v11 rfl rfl HM (.there (.there .here)) sz119 hu1 (by simp) rfl ?_; clear HM hu1; intro W HM))
    | ((with_reducible refine s_ 4 ?_); go_must (refine wl_alloc (dst := some 4) (cs := kc zeroKey) 23 _ Try.zeroValue23 kc_zero HM ?_; clear HM; intro b4 W HM))
    | ((with_reducible refine s_ 10 ?_); go_must ((refine wl_slice1V (dst := some 10) _ _ _ p Try.underlying119 Try.sizeOf24 Try.zeroValue24 hp rfl HM ?_; clear HM; intro b10 W HM)))
    | ((with_reducible refine s_ 11 ?_); go_must ((refine wl_appendM (dst := some 11) (enc := encV) _ _ _ _ _ _ _ _ _ _ _ [p] Try.underlying119 inf24 rfl (by decide) encV_len (by intro y hy; rw [List.mem_singleton.1 hy]; exact encV_one p hp1) HM (.there (.there (.there .here))) (RdL.of_blk (HM.blk m0) _ 1 rfl (by simp [encV]) (by decide)) rfl rfl (by decide) (by simp; omega) ?_; clear HM; intro v11 W HM; try dsimp only at HM)))
    | ((with_reducible refine ld_ 119 ?_); go_must (refine wl_load_cell _ _ _ _ _ _ _ _ rfl HM (by repeat first | exact List.mem_cons_self .. | refine List.mem_cons_of_mem _ ?_) (by rfl) Try.underlying119 rfl ?_))
    | ((with_reducible refine st_ 23 ?_); go_must ((refine wl_store_blk _ _ _ _ _ _ _ rfl rfl HM (.there .here) (by rw [kc_size]; exact sz23) (by simp only [kc_size]) (kc_one _) ?_); clear HM; intro W HM))
    | (go_at_call 122; go_must (((with_reducible refine (digest_c _ x _ (rd_text HM (List.mem_cons_of_mem _ (List.mem_cons_of_mem _ (List.mem_cons_of_mem _ (List.mem_cons_of_mem _ hx))))) hxl).mono ?_)); rintro e W ⟨rfl, HM'⟩; replace HM := HM.keep HM'.below; clear HM')))
  refine ret1 rfl (by (exact res_row HM rfl m1 Try.underlying23 rfl (by rw [kc_size]; exact sz23))) rfl ?_
  have H := HM.tail.tail
  rw [valsT_snoc _ _ x, show us.length + [p].length = (us ++ [(p, x)]).length by simp] at H
  exact ⟨_, rfl, H⟩
end
end
section
set_option linter.unusedVariables false
set_option linter.unusedSimpArgs false
set_option maxRecDepth 8000
open Go.RowKit
def TxIs (us : List (Value × List UInt8)) (ts : List (List UInt8)) : Prop := us.map (·.2) = ts
theorem TxIs.len {us : List (Value × List UInt8)} {ts : List (List UInt8)} (h : TxIs us ts) : us.length = ts.length := by rw [← show us.map (·.2) = ts from h, List.length_map]
theorem TxIs.app {us vs : List (Value × List UInt8)} {ts qs : List (List UInt8)} (h : TxIs us ts) (h' : TxIs vs qs) : TxIs (us ++ vs) (ts ++ qs) := by
  rw [TxIs, List.map_append, show us.map (·.2) = ts from h, show vs.map (·.2) = qs from h']
theorem TxIs.one (p : Value) (x : List UInt8) : TxIs [(p, x)] [x] := rfl
theorem Tx.inl {us : List (Value × List UInt8)} {R : List It} (S : List It) (h : Tx us R) : Tx us (R ++ S) := h.mono fun x hx => List.mem_append_left _ hx
theorem Tx.inr {us : List (Value × List UInt8)} {R : List It} (S : List It) (h : Tx us R) : Tx us (S ++ R) := h.mono fun x hx => List.mem_append_right _ hx
end
section
set_option linter.unusedVariables false
set_option linter.unusedSimpArgs false
set_option maxRecDepth 8000
open Go.RowKit
theorem Mem.nilT {w0 W : World} {x : It} {L : List It} (h : Mem w0 W (x :: L)) : Mem w0 W (x :: .row (.slice none 0 0) 24 1 ([] : List (Value × List UInt8)).length (valsT []) :: L) :=
  (h.nilrow 24 1).perm (List.Perm.swap _ _ _)
def Given (w W : World) (v : Value) (ts : List (List UInt8)) : Prop := ∃ us R, TxIs us ts ∧ Tx us R ∧ Mem w W (.row v 24 1 us.length (valsT us) :: R)
end
section
set_option linter.unusedVariables false
set_option linter.unusedSimpArgs false
set_option maxRecDepth 8000
open Go.RowKit
def stepsN (n i : Nat) : Nat :=
  if h : n ≤ 1 then 0
  else if i < splitN n then 1 + stepsN (splitN n) i
  else 1 + stepsN (n - splitN n) (i - splitN n)
termination_by n
decreasing_by
  · have := splitN_lt n (by omega); omega
  · have := splitN_lt n (by omega); omega
theorem stepsN_one (n i : Nat) (h : n ≤ 1) : stepsN n i = 0 := by rw [stepsN, dif_pos h]
theorem stepsN_lo (n i : Nat) (h : 2 ≤ n) (hi : i < splitN n) : stepsN n i = 1 + stepsN (splitN n) i := by rw [stepsN, dif_neg (by omega), if_pos hi]
theorem stepsN_hi (n i : Nat) (h : 2 ≤ n) (hi : ¬ i < splitN n) : stepsN n i = 1 + stepsN (n - splitN n) (i - splitN n) := by rw [stepsN, dif_neg (by omega), if_neg hi]
theorem stepsN_le : ∀ (n i : Nat), stepsN n i ≤ n := by
  intro n
  induction n using Nat.strongRecOn with
  | ind n ih =>
    intro i
    by_cases h : n ≤ 1
    · rw [stepsN_one n i h]; omega
    · have hs := splitN_lt n (by omega)
      by_cases hi : i < splitN n
      · rw [stepsN_lo n i (by omega) hi]; have := ih (splitN n) (by omega) i; omega
      · rw [stepsN_hi n i (by omega) hi]; have := ih (n - splitN n) (by omega) (i - splitN n); omega
def fitB (n i : Int) (m : Nat) : Bool := decide (1 ≤ n ∧ n ≤ 128 ∧ 0 ≤ i ∧ i < n ∧ m = stepsN n.toNat i.toNat)
theorem fitB_no (n i : Int) (m : Nat) (h : ¬ (1 ≤ n ∧ n ≤ 128 ∧ 0 ≤ i ∧ i < n)) : fitB n i m = false := by
  rw [fitB, decide_eq_false_iff_not]; rintro ⟨h1, h2, h3, h4, _⟩; exact h ⟨h1, h2, h3, h4⟩
theorem fitB_ok (n i m : Nat) (h1 : 1 ≤ n) (h2 : n ≤ 128) (h3 : i < n) : fitB n i m = decide (m = stepsN n i) := by
  rw [fitB]; congr 1; simp; omega
theorem fitB_true {n i : Int} {m : Nat} (h : fitB n i m = true) : ∃ a b : Nat, n = a ∧ i = b ∧ 1 ≤ a ∧ a ≤ 128 ∧ b < a ∧ m = stepsN a b := by
  obtain ⟨h1, h2, h3, h4, h5⟩ := of_decide_eq_true h
  exact ⟨n.toNat, i.toNat, by omega, by omega, by omega, by omega, by omega, h5⟩
def StInv (n i n' i' s : Nat) : Prop := stepsN n i = s + stepsN n' i'
theorem StInv.done {n i n' i' s : Nat} (h : StInv n i n' i' s) (h1 : n' ≤ 1) : stepsN n i = s := by rw [show stepsN n i = s + stepsN n' i' from h, stepsN_one n' i' h1]; omega
set_option maxHeartbeats 1600000 in
theorem fits_c (n i : Int) (v : Value) (path : List Key) (w : World) (hR : RdL encK 16 w v path) :
    Calls Try.prog 75 #[.agg #[.int .i64 n, .int .i64 i, v]] w fun e w' => e = .returned (.bool (fitB n i path.length)) ∧ Mem w w' [] := by
  have HM := Mem.start w
  by_cases h : 1 ≤ n ∧ n ≤ 128 ∧ 0 ≤ i ∧ i < n
  · obtain ⟨a1, a2, a3, a4⟩ := h
    obtain ⟨a, rfl⟩ := Int.eq_ofNat_of_zero_le (show 0 ≤ n by omega)
    obtain ⟨b, rfl⟩ := Int.eq_ofNat_of_zero_le a3
    rw [fitB_ok a b path.length (by omega) (by omega) (by omega)]
    have d1 : ¬ (a : Int) < 1 := by omega
    have b2 : ¬ (128 : Int) < (a : Int) := by omega
    have b3 : ¬ (b : Int) < 0 := by omega
    have b4 : ¬ (a : Int) ≤ (b : Int) := by omega
    go_enter Try.func75, Try.ntmps75
    go_wp2_with (first
      | ((with_reducible refine gd_ _ ?_); refine wl_guard (by rfl) ?_)
      | ((with_reducible refine s_ 1 ?_); go_must (refine wl_box (dst := some 1) (cs := #[.int .i64 a, .int .i64 b, v]) _ _ _ rfl rfl HM ?_; clear HM; intro b1 W HM))
      | ((with_reducible refine ld_ 3 ?_); go_must (refine wl_load_cell _ _ _ _ _ _ _ _ rfl HM (by repeat first | exact List.mem_cons_self .. | refine List.mem_cons_of_mem _ ?_) (by rfl) Try.underlying3 rfl ?_)))
    replace HM := HM.drew
    refine wp_region_mixN (fun W => Held w W [.blk b1 #[.int .i64 a, .int .i64 b, v] 52]) (fun W => Held w W [.blk b1 #[.int .i64 a, .int .i64 b, v] 52]) (.cons (2, 0) (.cons (2, 1) (.cons (2, 2) (.cons (2, 3) (.cons (2, 4) (.cons (2, 5) .nil)))))) [] (by kernel_rfl) (by kernel_rfl) (by kernel_rfl) (fun W h => Held.weak h (by simp)) (HM.held (by simp)) ?_
    revert HM; generalize World.drew _ = W; intro HM
    have HS1 : Held w W [.blk b1 #[.int .i64 a, .int .i64 b, v] 52] := HM.held (by simp)
    have HS2 : Held w W [.blk b1 #[.int .i64 a, .int .i64 b, v] 52] := HM.held (by simp)
    refine wm_q2 (i := 0) (some 27) rfl rfl rfl HS2 (fun W HS => by (go_simp; try with_reducible rfl)) ?_
    simp only [Act.put, List.getElem_toArray, List.getElem_cons_succ, List.getElem_cons_zero, List.setIfInBounds_toArray, List.set_cons_succ, List.set_cons_zero]
    refine wm_q2 (i := 1) (some 28) rfl rfl rfl HS2 (fun W HS => (by (exact ry_load_cell _ _ _ _ _ _ _ _ HS rfl m0 rfl Try.underlying3 rfl))) ?_
    simp only [Act.put, List.getElem_toArray, List.getElem_cons_succ, List.getElem_cons_zero, List.setIfInBounds_toArray, List.set_cons_succ, List.set_cons_zero]
    refine wm_q2 (i := 2) (some 29) rfl rfl rfl HS2 (fun W HS => by (go_simp; try with_reducible rfl)) ?_
    simp only [Act.put, List.getElem_toArray, List.getElem_cons_succ, List.getElem_cons_zero, List.setIfInBounds_toArray, List.set_cons_succ, List.set_cons_zero]
    refine wm_q2 (i := 3) (some 30) rfl rfl rfl HS2 (fun W HS => (by (exact ry_load_cell _ _ _ _ _ _ _ _ HS rfl m0 rfl Try.underlying3 rfl))) ?_
    simp only [Act.put, List.getElem_toArray, List.getElem_cons_succ, List.getElem_cons_zero, List.setIfInBounds_toArray, List.set_cons_succ, List.set_cons_zero]
    refine wm_q2 (i := 4) (some 4) rfl rfl rfl HS2 (fun W HS => by (go_simp; try with_reducible rfl)) ?_
    simp only [Act.put, List.getElem_toArray, List.getElem_cons_succ, List.getElem_cons_zero, List.setIfInBounds_toArray, List.set_cons_succ, List.set_cons_zero]
    refine wm_q2 (i := 5) (some 5) rfl rfl rfl HS2 (fun W HS => by (go_simp; try with_reducible rfl)) ?_
    simp only [Act.put, List.getElem_toArray, List.getElem_cons_succ, List.getElem_cons_zero, List.setIfInBounds_toArray, List.set_cons_succ, List.set_cons_zero]
    refine wm_nilN ?_
    clear HS1 HS2
    go_wp2_with (fail)
    go_loopw [3, 4, 5] (fun sv nv iv wr => ∃ n' i' s : Nat, i' < n' ∧ n' ≤ 128 ∧ StInv a b n' i' s ∧ sv = .int .i64 s ∧ nv = .int .i64 n' ∧ iv = .int .i64 i' ∧ Mem w wr [.blk b1 #[.int .i64 a, .int .i64 b, v] 52])
      (fun _ nv _ _ => (intOf nv).toNat)
    case atStart => exact ⟨a, b, 0, by omega, by omega, by simp [StInv], rfl, rfl, rfl, HM⟩
    case round =>
      clear HM
      obtain ⟨n', i', s, hi', hn', hP, rfl, rfl, rfl, HM⟩ := hrel
      have hs1 : s ≤ 128 := by
        have e1 : stepsN a b = s + stepsN n' i' := hP
        have e2 := stepsN_le a b
        omega
      by_cases hlt : 1 < n'
      · have hb : (1 : Int) < (n' : Int) := by omega
        have hs := splitN_lt n' (by omega)
        by_cases hlo : i' < splitN n'
        · have hb2 : (i' : Int) < ((splitN n' : Nat) : Int) := by omega
          have hP2 : StInv a b (splitN n') i' (s + 1) := by
            have e1 : stepsN a b = s + stepsN n' i' := hP
            rw [StInv, e1, stepsN_lo n' i' (by omega) hlo]; omega
          go_wp2_with (first
            | (go_at_call 72; go_must (((with_reducible refine (split_c _ (by omega) (by omega) _).mono ?_)); rintro e W ⟨rfl, HM'⟩; replace HM := HM.keep HM'.below; clear HM')))
          go_roundw
          case rel => exact ⟨_, i', s + 1, by omega, by omega, hP2, by go_num, rfl, rfl, HM⟩
          case measure => simp [intOf]; omega
        · have hb2 : ¬ (i' : Int) < ((splitN n' : Nat) : Int) := by omega
          have hP2 : StInv a b (n' - splitN n') (i' - splitN n') (s + 1) := by
            have e1 : stepsN a b = s + stepsN n' i' := hP
            rw [StInv, e1, stepsN_hi n' i' (by omega) hlo]; omega
          have hw1 : IntKind.i64.wrap ((n' : Int) - ((splitN n' : Nat) : Int)) = ((n' - splitN n' : Nat) : Int) := by rw [IntKind.wrap_i64]; omega
          have hw2 : IntKind.i64.wrap ((i' : Int) - ((splitN n' : Nat) : Int)) = ((i' - splitN n' : Nat) : Int) := by rw [IntKind.wrap_i64]; omega
          go_wp2_with (first
            | (go_at_call 72; go_must (((with_reducible refine (split_c _ (by omega) (by omega) _).mono ?_)); rintro e W ⟨rfl, HM'⟩; replace HM := HM.keep HM'.below; clear HM')))
          go_roundw
          case rel => exact ⟨_, _, s + 1, by omega, by omega, hP2, by go_num, rfl, rfl, HM⟩
          case measure => simp [intOf]; omega
      · have hb : ¬ (1 : Int) < (n' : Int) := by omega
        by_cases hl : path.length = s
        · have hb5 : (path.length : Int) = (s : Int) := by omega
          go_wp2_with (first
            | ((with_reducible refine s_ 49 ?_); go_must ((refine wl_len (dst := some 49) _ _ _ _ 23 Try.underlying40 rfl (hR.mem HM) ?_)))
            | ((with_reducible refine ld_ 40 ?_); go_must (refine wl_load_cell _ _ _ _ _ _ _ _ rfl HM (by repeat first | exact List.mem_cons_self .. | refine List.mem_cons_of_mem _ ?_) (by rfl) Try.underlying40 rfl ?_)))
          refine ret1 rfl (res_tmp rfl) rfl ?_
          exact ⟨by rw [hP.done (by omega)]; simp [hl], HM.base⟩
        · have hb5 : ¬ (path.length : Int) = (s : Int) := by omega
          go_wp2_with (first
            | ((with_reducible refine s_ 49 ?_); go_must ((refine wl_len (dst := some 49) _ _ _ _ 23 Try.underlying40 rfl (hR.mem HM) ?_)))
            | ((with_reducible refine ld_ 40 ?_); go_must (refine wl_load_cell _ _ _ _ _ _ _ _ rfl HM (by repeat first | exact List.mem_cons_self .. | refine List.mem_cons_of_mem _ ?_) (by rfl) Try.underlying40 rfl ?_)))
          refine ret1 rfl (res_tmp rfl) rfl ?_
          exact ⟨by rw [hP.done (by omega)]; simp [hl]; omega, HM.base⟩
  · rw [fitB_no n i path.length h]
    by_cases c1 : n < 1
    · clear h
      go_enter Try.func75, Try.ntmps75
      go_wp2_with (first
        | ((with_reducible refine s_ 1 ?_); go_must (refine wl_box (dst := some 1) (cs := #[.int .i64 n, .int .i64 i, v]) _ _ _ rfl rfl HM ?_; clear HM; intro b1 W HM))
        | ((with_reducible refine ld_ 3 ?_); go_must (refine wl_load_cell _ _ _ _ _ _ _ _ rfl HM (by repeat first | exact List.mem_cons_self .. | refine List.mem_cons_of_mem _ ?_) (by rfl) Try.underlying3 rfl ?_)))
      refine ret1 rfl (res_tmp rfl) rfl ?_
      exact ⟨rfl, HM.base⟩
    · by_cases c2 : 128 < n
      · clear h
        go_enter Try.func75, Try.ntmps75
        go_wp2_with (first
          | ((with_reducible refine gd_ _ ?_); refine wl_guard (by rfl) ?_)
          | ((with_reducible refine s_ 1 ?_); go_must (refine wl_box (dst := some 1) (cs := #[.int .i64 n, .int .i64 i, v]) _ _ _ rfl rfl HM ?_; clear HM; intro b1 W HM))
          | ((with_reducible refine ld_ 3 ?_); go_must (refine wl_load_cell _ _ _ _ _ _ _ _ rfl HM (by repeat first | exact List.mem_cons_self .. | refine List.mem_cons_of_mem _ ?_) (by rfl) Try.underlying3 rfl ?_)))
        refine ret1 rfl (res_tmp rfl) rfl ?_
        exact ⟨rfl, HM.base⟩
      · by_cases c3 : i < 0
        · clear h
          go_enter Try.func75, Try.ntmps75
          go_wp2_with (first
            | ((with_reducible refine gd_ _ ?_); refine wl_guard (by rfl) ?_)
            | ((with_reducible refine s_ 1 ?_); go_must (refine wl_box (dst := some 1) (cs := #[.int .i64 n, .int .i64 i, v]) _ _ _ rfl rfl HM ?_; clear HM; intro b1 W HM))
            | ((with_reducible refine ld_ 3 ?_); go_must (refine wl_load_cell _ _ _ _ _ _ _ _ rfl HM (by repeat first | exact List.mem_cons_self .. | refine List.mem_cons_of_mem _ ?_) (by rfl) Try.underlying3 rfl ?_)))
          refine ret1 rfl (res_tmp rfl) rfl ?_
          exact ⟨rfl, HM.base⟩
        · have c4 : n ≤ i := by omega
          clear h
          go_enter Try.func75, Try.ntmps75
          go_wp2_with (first
            | ((with_reducible refine gd_ _ ?_); refine wl_guard (by rfl) ?_)
            | ((with_reducible refine s_ 1 ?_); go_must (refine wl_box (dst := some 1) (cs := #[.int .i64 n, .int .i64 i, v]) _ _ _ rfl rfl HM ?_; clear HM; intro b1 W HM))
            | ((with_reducible refine ld_ 3 ?_); go_must (refine wl_load_cell _ _ _ _ _ _ _ _ rfl HM (by repeat first | exact List.mem_cons_self .. | refine List.mem_cons_of_mem _ ?_) (by rfl) Try.underlying3 rfl ?_)))
          refine ret1 rfl (res_tmp rfl) rfl ?_
          exact ⟨rfl, HM.base⟩
set_option maxHeartbeats 800000 in
theorem steps_c : ∀ (n i : Nat) (w : World), 1 ≤ n → n ≤ 128 → i < n →
    Calls Try.prog 133 #[.int .i64 (n : Int), .int .i64 (i : Int)] w fun e w' => e = .returned (.int .i64 (stepsN n i : Nat)) ∧ Mem w w' [] := by
  intro n
  induction n using Nat.strongRecOn with
  | ind n ih =>
    intro i w h1 hn hi
    have HM := Mem.start w
    by_cases hone : n = 1
    · have hb : (n : Int) = 1 := by omega
      clear ih
      rw [stepsN_one n i (by omega)]
      go_enter Try.func133, Try.ntmps133
      go_wp2_with (fail)
      refine ret1 rfl (res_tmp rfl) rfl ?_
      exact ⟨rfl, HM⟩
    · have hb : ¬ (n : Int) = 1 := by omega
      have hs := splitN_lt n (by omega)
      by_cases hlo : i < splitN n
      · have hb2 : (i : Int) < ((splitN n : Nat) : Int) := by omega
        have hle := stepsN_le (splitN n) i
        have hw : IntKind.i64.wrap (1 + ((stepsN (splitN n) i : Nat) : Int)) = ((stepsN n i : Nat) : Int) := by rw [IntKind.wrap_i64, stepsN_lo n i (by omega) hlo]; omega
        go_enter Try.func133, Try.ntmps133
        go_wp2_with (first
          | (go_at_call 127; go_must (((with_reducible refine (rsplit_c _ (by omega) (by omega) _).mono ?_)); rintro e W ⟨rfl, HM'⟩; replace HM := HM.keep HM'.below; clear HM'))
          | (go_at_call 133; go_must (((with_reducible refine (ih (splitN n) (by omega) i _ (by omega) (by omega) (by omega)).mono ?_)); rintro e W ⟨rfl, HM'⟩; replace HM := HM.keep HM'.below; clear HM')))
        refine ret1 rfl (res_tmp rfl) rfl ?_
        exact ⟨rfl, HM⟩
      · have hb2 : ¬ (i : Int) < ((splitN n : Nat) : Int) := by omega
        have hle := stepsN_le (n - splitN n) (i - splitN n)
        have hw1 : IntKind.i64.wrap ((n : Int) - ((splitN n : Nat) : Int)) = ((n - splitN n : Nat) : Int) := by rw [IntKind.wrap_i64]; omega
        have hw2 : IntKind.i64.wrap ((i : Int) - ((splitN n : Nat) : Int)) = ((i - splitN n : Nat) : Int) := by rw [IntKind.wrap_i64]; omega
        have hw : IntKind.i64.wrap (1 + ((stepsN (n - splitN n) (i - splitN n) : Nat) : Int)) = ((stepsN n i : Nat) : Int) := by rw [IntKind.wrap_i64, stepsN_hi n i (by omega) hlo]; omega
        go_enter Try.func133, Try.ntmps133
        go_wp2_with (first
          | (go_at_call 127; go_must (((with_reducible refine (rsplit_c _ (by omega) (by omega) _).mono ?_)); rintro e W ⟨rfl, HM'⟩; replace HM := HM.keep HM'.below; clear HM'))
          | (go_at_call 133; go_must (((with_reducible refine (ih (n - splitN n) (by omega) (i - splitN n) _ (by omega) (by omega) (by omega)).mono ?_)); rintro e W ⟨rfl, HM'⟩; replace HM := HM.keep HM'.below; clear HM')))
        refine ret1 rfl (res_tmp rfl) rfl ?_
        exact ⟨rfl, HM⟩
set_option maxHeartbeats 1600000 in
theorem rFits_c (n i : Int) (v : Value) (path : List Key) (w : World) (hR : RdL encK 16 w v path) :
    Calls Try.prog 77 #[.agg #[.int .i64 n, .int .i64 i, v]] w fun e w' => e = .returned (.bool (fitB n i path.length)) ∧ Mem w w' [] := by
  have HM := Mem.start w
  by_cases h : 1 ≤ n ∧ n ≤ 128 ∧ 0 ≤ i ∧ i < n
  · obtain ⟨a1, a2, a3, a4⟩ := h
    obtain ⟨a, rfl⟩ := Int.eq_ofNat_of_zero_le (show 0 ≤ n by omega)
    obtain ⟨b, rfl⟩ := Int.eq_ofNat_of_zero_le a3
    rw [fitB_ok a b path.length (by omega) (by omega) (by omega)]
    by_cases hl : path.length = stepsN a b
    · have hb5 : (path.length : Int) = ((stepsN a b : Nat) : Int) := by omega
      go_enter Try.func77, Try.ntmps77
      go_wp2_with (first
        | ((with_reducible refine s_ 1 ?_); go_must (refine wl_box (dst := some 1) (cs := #[.int .i64 a, .int .i64 b, v]) _ _ _ rfl rfl HM ?_; clear HM; intro b1 W HM)))
      replace HM := HM.drew
      refine wp_region_mixN (fun W => Held w W [.blk b1 #[.int .i64 a, .int .i64 b, v] 52]) (fun W => Held w W [.blk b1 #[.int .i64 a, .int .i64 b, v] 52]) (.cons (2, 0) (.cons (2, 1) (.cons (2, 2) (.cons (2, 3) (.cons (2, 4) (.cons (2, 5) (.cons (2, 6) (.cons (2, 7) (.cons (2, 8) (.cons (2, 9) (.cons (2, 10) (.cons (2, 11) (.cons (2, 12) (.cons (2, 13) (.cons (2, 14) (.cons (2, 15) (.cons (2, 16) (.cons (2, 17) (.cons (2, 18) (.cons (2, 19) (.cons (2, 20) (.cons (2, 21) (.cons (2, 22) (.cons (2, 23) (.cons (2, 24) (.cons (2, 25) (.cons (2, 26) (.cons (2, 27) (.cons (0, 28) (.cons (2, 29) (.cons (2, 30) (.cons (2, 31) .nil)))))))))))))))))))))))))))))))) [] (by kernel_rfl) (by kernel_rfl) (by kernel_rfl) (fun W h => Held.weak h (by simp)) (HM.held (by simp)) ?_
      revert HM; generalize World.drew _ = W; intro HM
      have HS1 : Held w W [.blk b1 #[.int .i64 a, .int .i64 b, v] 52] := HM.held (by simp)
      have HS2 : Held w W [.blk b1 #[.int .i64 a, .int .i64 b, v] 52] := HM.held (by simp)
      refine wm_q2 (i := 0) (some 3) rfl rfl rfl HS2 (fun W HS => by (go_simp; try with_reducible rfl)) ?_
      simp only [Act.put, List.getElem_toArray, List.getElem_cons_succ, List.getElem_cons_zero, List.setIfInBounds_toArray, List.set_cons_succ, List.set_cons_zero]
      refine wm_q2 (i := 1) (some 4) rfl rfl rfl HS2 (fun W HS => (by (exact ry_load_cell _ _ _ _ _ _ _ _ HS rfl m0 rfl Try.underlying3 rfl))) ?_
      simp only [Act.put, List.getElem_toArray, List.getElem_cons_succ, List.getElem_cons_zero, List.setIfInBounds_toArray, List.set_cons_succ, List.set_cons_zero]
      refine wm_q2 (i := 2) (some 5) rfl rfl rfl HS2 (fun W HS => by (go_simp; try with_reducible rfl)) ?_
      simp only [Act.put, List.getElem_toArray, List.getElem_cons_succ, List.getElem_cons_zero, List.setIfInBounds_toArray, List.set_cons_succ, List.set_cons_zero]
      refine wm_q2 (i := 3) (some 6) rfl rfl rfl HS2 (fun W HS => by (go_simp; try with_reducible rfl)) ?_
      simp only [Act.put, List.getElem_toArray, List.getElem_cons_succ, List.getElem_cons_zero, List.setIfInBounds_toArray, List.set_cons_succ, List.set_cons_zero]
      ((refine wm_g2 (i := 4) (some 7) rfl rfl (by rfl) HS2 (fun W HS => by (go_simp; try with_reducible rfl)) ?_))
      simp only [Act.put, List.getElem_toArray, List.getElem_cons_succ, List.getElem_cons_zero, List.setIfInBounds_toArray, List.set_cons_succ, List.set_cons_zero]
      ((refine wm_g2 (i := 5) (some 8) rfl rfl (by rfl) HS2 (fun W HS => (by (exact ry_load_cell _ _ _ _ _ _ _ _ HS rfl m0 rfl Try.underlying3 rfl))) ?_))
      simp only [Act.put, List.getElem_toArray, List.getElem_cons_succ, List.getElem_cons_zero, List.setIfInBounds_toArray, List.set_cons_succ, List.set_cons_zero]
      ((refine wm_g2 (i := 6) (some 9) rfl rfl (by rfl) HS2 (fun W HS => by (go_simp; try with_reducible rfl)) ?_))
      simp only [Act.put, List.getElem_toArray, List.getElem_cons_succ, List.getElem_cons_zero, List.setIfInBounds_toArray, List.set_cons_succ, List.set_cons_zero]
      refine wm_q2 (i := 7) (some 10) rfl rfl rfl HS2 (fun W HS => by (go_simp; try with_reducible rfl)) ?_
      simp only [Act.put, List.getElem_toArray, List.getElem_cons_succ, List.getElem_cons_zero, List.setIfInBounds_toArray, List.set_cons_succ, List.set_cons_zero]
      refine wm_q2 (i := 8) (some 11) rfl rfl rfl HS2 (fun W HS => by (go_simp; try with_reducible rfl)) ?_
      simp only [Act.put, List.getElem_toArray, List.getElem_cons_succ, List.getElem_cons_zero, List.setIfInBounds_toArray, List.set_cons_succ, List.set_cons_zero]
      ((refine wm_g2 (i := 9) (some 12) rfl rfl (by rfl) HS2 (fun W HS => by (go_simp; try with_reducible rfl)) ?_))
      simp only [Act.put, List.getElem_toArray, List.getElem_cons_succ, List.getElem_cons_zero, List.setIfInBounds_toArray, List.set_cons_succ, List.set_cons_zero]
      ((refine wm_g2 (i := 10) (some 13) rfl rfl (by rfl) HS2 (fun W HS => (by (exact ry_load_cell _ _ _ _ _ _ _ _ HS rfl m0 rfl Try.underlying3 rfl))) ?_))
      simp only [Act.put, List.getElem_toArray, List.getElem_cons_succ, List.getElem_cons_zero, List.setIfInBounds_toArray, List.set_cons_succ, List.set_cons_zero]
      ((refine wm_g2 (i := 11) (some 14) rfl rfl (by rfl) HS2 (fun W HS => by (go_simp; try with_reducible rfl)) ?_))
      simp only [Act.put, List.getElem_toArray, List.getElem_cons_succ, List.getElem_cons_zero, List.setIfInBounds_toArray, List.set_cons_succ, List.set_cons_zero]
      refine wm_q2 (i := 12) (some 15) rfl rfl rfl HS2 (fun W HS => by (go_simp; try with_reducible rfl)) ?_
      simp only [Act.put, List.getElem_toArray, List.getElem_cons_succ, List.getElem_cons_zero, List.setIfInBounds_toArray, List.set_cons_succ, List.set_cons_zero]
      refine wm_q2 (i := 13) (some 16) rfl rfl rfl HS2 (fun W HS => by (go_simp; try with_reducible rfl)) ?_
      simp only [Act.put, List.getElem_toArray, List.getElem_cons_succ, List.getElem_cons_zero, List.setIfInBounds_toArray, List.set_cons_succ, List.set_cons_zero]
      ((refine wm_g2 (i := 14) (some 17) rfl rfl (by rfl) HS2 (fun W HS => by (go_simp; try with_reducible rfl)) ?_))
      simp only [Act.put, List.getElem_toArray, List.getElem_cons_succ, List.getElem_cons_zero, List.setIfInBounds_toArray, List.set_cons_succ, List.set_cons_zero]
      ((refine wm_g2 (i := 15) (some 18) rfl rfl (by rfl) HS2 (fun W HS => (by (exact ry_load_cell _ _ _ _ _ _ _ _ HS rfl m0 rfl Try.underlying3 rfl))) ?_))
      simp only [Act.put, List.getElem_toArray, List.getElem_cons_succ, List.getElem_cons_zero, List.setIfInBounds_toArray, List.set_cons_succ, List.set_cons_zero]
      ((refine wm_g2 (i := 16) (some 19) rfl rfl (by rfl) HS2 (fun W HS => by (go_simp; try with_reducible rfl)) ?_))
      simp only [Act.put, List.getElem_toArray, List.getElem_cons_succ, List.getElem_cons_zero, List.setIfInBounds_toArray, List.set_cons_succ, List.set_cons_zero]
      ((refine wm_g2 (i := 17) (some 20) rfl rfl (by rfl) HS2 (fun W HS => (by (exact ry_load_cell _ _ _ _ _ _ _ _ HS rfl m0 rfl Try.underlying3 rfl))) ?_))
      simp only [Act.put, List.getElem_toArray, List.getElem_cons_succ, List.getElem_cons_zero, List.setIfInBounds_toArray, List.set_cons_succ, List.set_cons_zero]
      ((refine wm_g2 (i := 18) (some 21) rfl rfl (by rfl) HS2 (fun W HS => by (go_simp; try with_reducible rfl)) ?_))
      simp only [Act.put, List.getElem_toArray, List.getElem_cons_succ, List.getElem_cons_zero, List.setIfInBounds_toArray, List.set_cons_succ, List.set_cons_zero]
      refine wm_q2 (i := 19) (some 22) rfl rfl rfl HS2 (fun W HS => by (go_simp; try with_reducible rfl)) ?_
      simp only [Act.put, List.getElem_toArray, List.getElem_cons_succ, List.getElem_cons_zero, List.setIfInBounds_toArray, List.set_cons_succ, List.set_cons_zero]
      refine wm_q2 (i := 20) (some 23) rfl rfl rfl HS2 (fun W HS => by (go_simp; try with_reducible rfl)) ?_
      simp only [Act.put, List.getElem_toArray, List.getElem_cons_succ, List.getElem_cons_zero, List.setIfInBounds_toArray, List.set_cons_succ, List.set_cons_zero]
      ((refine wm_g2 (i := 21) (some 24) rfl rfl (by rfl) HS2 (fun W HS => by (go_simp; try with_reducible rfl)) ?_))
      simp only [Act.put, List.getElem_toArray, List.getElem_cons_succ, List.getElem_cons_zero, List.setIfInBounds_toArray, List.set_cons_succ, List.set_cons_zero]
      ((refine wm_g2 (i := 22) (some 25) rfl rfl (by rfl) HS2 (fun W HS => (by (exact ry_load_cell _ _ _ _ _ _ _ _ HS rfl m0 rfl Try.underlying40 rfl))) ?_))
      simp only [Act.put, List.getElem_toArray, List.getElem_cons_succ, List.getElem_cons_zero, List.setIfInBounds_toArray, List.set_cons_succ, List.set_cons_zero]
      ((refine wm_g2 (i := 23) (some 26) rfl rfl (by rfl) HS2 (fun W HS => (by ((refine ry_len _ _ _ _ 23 Try.underlying40 (hR.held HS) ?_; rfl)))) ?_))
      simp only [Act.put, List.getElem_toArray, List.getElem_cons_succ, List.getElem_cons_zero, List.setIfInBounds_toArray, List.set_cons_succ, List.set_cons_zero]
      ((refine wm_g2 (i := 24) (some 27) rfl rfl (by rfl) HS2 (fun W HS => by (go_simp; try with_reducible rfl)) ?_))
      simp only [Act.put, List.getElem_toArray, List.getElem_cons_succ, List.getElem_cons_zero, List.setIfInBounds_toArray, List.set_cons_succ, List.set_cons_zero]
      ((refine wm_g2 (i := 25) (some 28) rfl rfl (by rfl) HS2 (fun W HS => (by (exact ry_load_cell _ _ _ _ _ _ _ _ HS rfl m0 rfl Try.underlying3 rfl))) ?_))
      simp only [Act.put, List.getElem_toArray, List.getElem_cons_succ, List.getElem_cons_zero, List.setIfInBounds_toArray, List.set_cons_succ, List.set_cons_zero]
      ((refine wm_g2 (i := 26) (some 29) rfl rfl (by rfl) HS2 (fun W HS => by (go_simp; try with_reducible rfl)) ?_))
      simp only [Act.put, List.getElem_toArray, List.getElem_cons_succ, List.getElem_cons_zero, List.setIfInBounds_toArray, List.set_cons_succ, List.set_cons_zero]
      ((refine wm_g2 (i := 27) (some 30) rfl rfl (by rfl) HS2 (fun W HS => (by (exact ry_load_cell _ _ _ _ _ _ _ _ HS rfl m0 rfl Try.underlying3 rfl))) ?_))
      simp only [Act.put, List.getElem_toArray, List.getElem_cons_succ, List.getElem_cons_zero, List.setIfInBounds_toArray, List.set_cons_succ, List.set_cons_zero]
      ((refine wm_e0 (i := 28) rfl ?_; go_wp2_with (first | ((with_reducible refine gd_ _ ?_); refine wl_guard (by rfl) ?_) | (go_at_call 133; go_must (((with_reducible refine (steps_c a b _ (by omega) (by omega) (by omega)).mono ?_)); rintro e W ⟨rfl, HM'⟩; replace HM := HM.keep HM'.below; clear HM'))); refine ⟨HM.held (by simp), ?_⟩; clear HS1 HS2; have HS1 : Held w W [.blk b1 #[.int .i64 a, .int .i64 b, v] 52] := HM.held (by simp); have HS2 : Held w W [.blk b1 #[.int .i64 a, .int .i64 b, v] 52] := HM.held (by simp)))
      ((refine wm_g2 (i := 29) (some 32) rfl rfl (by rfl) HS2 (fun W HS => by (go_simp; try with_reducible rfl)) ?_))
      simp only [Act.put, List.getElem_toArray, List.getElem_cons_succ, List.getElem_cons_zero, List.setIfInBounds_toArray, List.set_cons_succ, List.set_cons_zero]
      refine wm_q2 (i := 30) (some 33) rfl rfl rfl HS2 (fun W HS => by (go_simp; try with_reducible rfl)) ?_
      simp only [Act.put, List.getElem_toArray, List.getElem_cons_succ, List.getElem_cons_zero, List.setIfInBounds_toArray, List.set_cons_succ, List.set_cons_zero]
      refine wm_q2 (i := 31) (some 2) rfl rfl rfl HS2 (fun W HS => by (go_simp; try with_reducible rfl)) ?_
      simp only [Act.put, List.getElem_toArray, List.getElem_cons_succ, List.getElem_cons_zero, List.setIfInBounds_toArray, List.set_cons_succ, List.set_cons_zero]
      refine wm_nilN ?_
      clear HS1 HS2
      go_wp2_with (fail)
      refine ret1 rfl (res_tmp rfl) rfl ?_
      exact ⟨by simp [hl], HM.base⟩
    · have hb6 : ¬ (path.length : Int) = ((stepsN a b : Nat) : Int) := by omega
      go_enter Try.func77, Try.ntmps77
      go_wp2_with (first
        | ((with_reducible refine s_ 1 ?_); go_must (refine wl_box (dst := some 1) (cs := #[.int .i64 a, .int .i64 b, v]) _ _ _ rfl rfl HM ?_; clear HM; intro b1 W HM)))
      replace HM := HM.drew
      refine wp_region_mixN (fun W => Held w W [.blk b1 #[.int .i64 a, .int .i64 b, v] 52]) (fun W => Held w W [.blk b1 #[.int .i64 a, .int .i64 b, v] 52]) (.cons (2, 0) (.cons (2, 1) (.cons (2, 2) (.cons (2, 3) (.cons (2, 4) (.cons (2, 5) (.cons (2, 6) (.cons (2, 7) (.cons (2, 8) (.cons (2, 9) (.cons (2, 10) (.cons (2, 11) (.cons (2, 12) (.cons (2, 13) (.cons (2, 14) (.cons (2, 15) (.cons (2, 16) (.cons (2, 17) (.cons (2, 18) (.cons (2, 19) (.cons (2, 20) (.cons (2, 21) (.cons (2, 22) (.cons (2, 23) (.cons (2, 24) (.cons (2, 25) (.cons (2, 26) (.cons (2, 27) (.cons (0, 28) (.cons (2, 29) (.cons (2, 30) (.cons (2, 31) .nil)))))))))))))))))))))))))))))))) [] (by kernel_rfl) (by kernel_rfl) (by kernel_rfl) (fun W h => Held.weak h (by simp)) (HM.held (by simp)) ?_
      revert HM; generalize World.drew _ = W; intro HM
      have HS1 : Held w W [.blk b1 #[.int .i64 a, .int .i64 b, v] 52] := HM.held (by simp)
      have HS2 : Held w W [.blk b1 #[.int .i64 a, .int .i64 b, v] 52] := HM.held (by simp)
      refine wm_q2 (i := 0) (some 3) rfl rfl rfl HS2 (fun W HS => by (go_simp; try with_reducible rfl)) ?_
      simp only [Act.put, List.getElem_toArray, List.getElem_cons_succ, List.getElem_cons_zero, List.setIfInBounds_toArray, List.set_cons_succ, List.set_cons_zero]
      refine wm_q2 (i := 1) (some 4) rfl rfl rfl HS2 (fun W HS => (by (exact ry_load_cell _ _ _ _ _ _ _ _ HS rfl m0 rfl Try.underlying3 rfl))) ?_
      simp only [Act.put, List.getElem_toArray, List.getElem_cons_succ, List.getElem_cons_zero, List.setIfInBounds_toArray, List.set_cons_succ, List.set_cons_zero]
      refine wm_q2 (i := 2) (some 5) rfl rfl rfl HS2 (fun W HS => by (go_simp; try with_reducible rfl)) ?_
      simp only [Act.put, List.getElem_toArray, List.getElem_cons_succ, List.getElem_cons_zero, List.setIfInBounds_toArray, List.set_cons_succ, List.set_cons_zero]
      refine wm_q2 (i := 3) (some 6) rfl rfl rfl HS2 (fun W HS => by (go_simp; try with_reducible rfl)) ?_
      simp only [Act.put, List.getElem_toArray, List.getElem_cons_succ, List.getElem_cons_zero, List.setIfInBounds_toArray, List.set_cons_succ, List.set_cons_zero]
      ((refine wm_g2 (i := 4) (some 7) rfl rfl (by rfl) HS2 (fun W HS => by (go_simp; try with_reducible rfl)) ?_))
      simp only [Act.put, List.getElem_toArray, List.getElem_cons_succ, List.getElem_cons_zero, List.setIfInBounds_toArray, List.set_cons_succ, List.set_cons_zero]
      ((refine wm_g2 (i := 5) (some 8) rfl rfl (by rfl) HS2 (fun W HS => (by (exact ry_load_cell _ _ _ _ _ _ _ _ HS rfl m0 rfl Try.underlying3 rfl))) ?_))
      simp only [Act.put, List.getElem_toArray, List.getElem_cons_succ, List.getElem_cons_zero, List.setIfInBounds_toArray, List.set_cons_succ, List.set_cons_zero]
      ((refine wm_g2 (i := 6) (some 9) rfl rfl (by rfl) HS2 (fun W HS => by (go_simp; try with_reducible rfl)) ?_))
      simp only [Act.put, List.getElem_toArray, List.getElem_cons_succ, List.getElem_cons_zero, List.setIfInBounds_toArray, List.set_cons_succ, List.set_cons_zero]
      refine wm_q2 (i := 7) (some 10) rfl rfl rfl HS2 (fun W HS => by (go_simp; try with_reducible rfl)) ?_
      simp only [Act.put, List.getElem_toArray, List.getElem_cons_succ, List.getElem_cons_zero, List.setIfInBounds_toArray, List.set_cons_succ, List.set_cons_zero]
      refine wm_q2 (i := 8) (some 11) rfl rfl rfl HS2 (fun W HS => by (go_simp; try with_reducible rfl)) ?_
      simp only [Act.put, List.getElem_toArray, List.getElem_cons_succ, List.getElem_cons_zero, List.setIfInBounds_toArray, List.set_cons_succ, List.set_cons_zero]
      ((refine wm_g2 (i := 9) (some 12) rfl rfl (by rfl) HS2 (fun W HS => by (go_simp; try with_reducible rfl)) ?_))
      simp only [Act.put, List.getElem_toArray, List.getElem_cons_succ, List.getElem_cons_zero, List.setIfInBounds_toArray, List.set_cons_succ, List.set_cons_zero]
      ((refine wm_g2 (i := 10) (some 13) rfl rfl (by rfl) HS2 (fun W HS => (by (exact ry_load_cell _ _ _ _ _ _ _ _ HS rfl m0 rfl Try.underlying3 rfl))) ?_))
      simp only [Act.put, List.getElem_toArray, List.getElem_cons_succ, List.getElem_cons_zero, List.setIfInBounds_toArray, List.set_cons_succ, List.set_cons_zero]
      ((refine wm_g2 (i := 11) (some 14) rfl rfl (by rfl) HS2 (fun W HS => by (go_simp; try with_reducible rfl)) ?_))
      simp only [Act.put, List.getElem_toArray, List.getElem_cons_succ, List.getElem_cons_zero, List.setIfInBounds_toArray, List.set_cons_succ, List.set_cons_zero]
      refine wm_q2 (i := 12) (some 15) rfl rfl rfl HS2 (fun W HS => by (go_simp; try with_reducible rfl)) ?_
      simp only [Act.put, List.getElem_toArray, List.getElem_cons_succ, List.getElem_cons_zero, List.setIfInBounds_toArray, List.set_cons_succ, List.set_cons_zero]
      refine wm_q2 (i := 13) (some 16) rfl rfl rfl HS2 (fun W HS => by (go_simp; try with_reducible rfl)) ?_
      simp only [Act.put, List.getElem_toArray, List.getElem_cons_succ, List.getElem_cons_zero, List.setIfInBounds_toArray, List.set_cons_succ, List.set_cons_zero]
      ((refine wm_g2 (i := 14) (some 17) rfl rfl (by rfl) HS2 (fun W HS => by (go_simp; try with_reducible rfl)) ?_))
      simp only [Act.put, List.getElem_toArray, List.getElem_cons_succ, List.getElem_cons_zero, List.setIfInBounds_toArray, List.set_cons_succ, List.set_cons_zero]
      ((refine wm_g2 (i := 15) (some 18) rfl rfl (by rfl) HS2 (fun W HS => (by (exact ry_load_cell _ _ _ _ _ _ _ _ HS rfl m0 rfl Try.underlying3 rfl))) ?_))
      simp only [Act.put, List.getElem_toArray, List.getElem_cons_succ, List.getElem_cons_zero, List.setIfInBounds_toArray, List.set_cons_succ, List.set_cons_zero]
      ((refine wm_g2 (i := 16) (some 19) rfl rfl (by rfl) HS2 (fun W HS => by (go_simp; try with_reducible rfl)) ?_))
      simp only [Act.put, List.getElem_toArray, List.getElem_cons_succ, List.getElem_cons_zero, List.setIfInBounds_toArray, List.set_cons_succ, List.set_cons_zero]
      ((refine wm_g2 (i := 17) (some 20) rfl rfl (by rfl) HS2 (fun W HS => (by (exact ry_load_cell _ _ _ _ _ _ _ _ HS rfl m0 rfl Try.underlying3 rfl))) ?_))
      simp only [Act.put, List.getElem_toArray, List.getElem_cons_succ, List.getElem_cons_zero, List.setIfInBounds_toArray, List.set_cons_succ, List.set_cons_zero]
      ((refine wm_g2 (i := 18) (some 21) rfl rfl (by rfl) HS2 (fun W HS => by (go_simp; try with_reducible rfl)) ?_))
      simp only [Act.put, List.getElem_toArray, List.getElem_cons_succ, List.getElem_cons_zero, List.setIfInBounds_toArray, List.set_cons_succ, List.set_cons_zero]
      refine wm_q2 (i := 19) (some 22) rfl rfl rfl HS2 (fun W HS => by (go_simp; try with_reducible rfl)) ?_
      simp only [Act.put, List.getElem_toArray, List.getElem_cons_succ, List.getElem_cons_zero, List.setIfInBounds_toArray, List.set_cons_succ, List.set_cons_zero]
      refine wm_q2 (i := 20) (some 23) rfl rfl rfl HS2 (fun W HS => by (go_simp; try with_reducible rfl)) ?_
      simp only [Act.put, List.getElem_toArray, List.getElem_cons_succ, List.getElem_cons_zero, List.setIfInBounds_toArray, List.set_cons_succ, List.set_cons_zero]
      ((refine wm_g2 (i := 21) (some 24) rfl rfl (by rfl) HS2 (fun W HS => by (go_simp; try with_reducible rfl)) ?_))
      simp only [Act.put, List.getElem_toArray, List.getElem_cons_succ, List.getElem_cons_zero, List.setIfInBounds_toArray, List.set_cons_succ, List.set_cons_zero]
      ((refine wm_g2 (i := 22) (some 25) rfl rfl (by rfl) HS2 (fun W HS => (by (exact ry_load_cell _ _ _ _ _ _ _ _ HS rfl m0 rfl Try.underlying40 rfl))) ?_))
      simp only [Act.put, List.getElem_toArray, List.getElem_cons_succ, List.getElem_cons_zero, List.setIfInBounds_toArray, List.set_cons_succ, List.set_cons_zero]
      ((refine wm_g2 (i := 23) (some 26) rfl rfl (by rfl) HS2 (fun W HS => (by ((refine ry_len _ _ _ _ 23 Try.underlying40 (hR.held HS) ?_; rfl)))) ?_))
      simp only [Act.put, List.getElem_toArray, List.getElem_cons_succ, List.getElem_cons_zero, List.setIfInBounds_toArray, List.set_cons_succ, List.set_cons_zero]
      ((refine wm_g2 (i := 24) (some 27) rfl rfl (by rfl) HS2 (fun W HS => by (go_simp; try with_reducible rfl)) ?_))
      simp only [Act.put, List.getElem_toArray, List.getElem_cons_succ, List.getElem_cons_zero, List.setIfInBounds_toArray, List.set_cons_succ, List.set_cons_zero]
      ((refine wm_g2 (i := 25) (some 28) rfl rfl (by rfl) HS2 (fun W HS => (by (exact ry_load_cell _ _ _ _ _ _ _ _ HS rfl m0 rfl Try.underlying3 rfl))) ?_))
      simp only [Act.put, List.getElem_toArray, List.getElem_cons_succ, List.getElem_cons_zero, List.setIfInBounds_toArray, List.set_cons_succ, List.set_cons_zero]
      ((refine wm_g2 (i := 26) (some 29) rfl rfl (by rfl) HS2 (fun W HS => by (go_simp; try with_reducible rfl)) ?_))
      simp only [Act.put, List.getElem_toArray, List.getElem_cons_succ, List.getElem_cons_zero, List.setIfInBounds_toArray, List.set_cons_succ, List.set_cons_zero]
      ((refine wm_g2 (i := 27) (some 30) rfl rfl (by rfl) HS2 (fun W HS => (by (exact ry_load_cell _ _ _ _ _ _ _ _ HS rfl m0 rfl Try.underlying3 rfl))) ?_))
      simp only [Act.put, List.getElem_toArray, List.getElem_cons_succ, List.getElem_cons_zero, List.setIfInBounds_toArray, List.set_cons_succ, List.set_cons_zero]
      ((refine wm_e0 (i := 28) rfl ?_; go_wp2_with (first | ((with_reducible refine gd_ _ ?_); refine wl_guard (by rfl) ?_) | (go_at_call 133; go_must (((with_reducible refine (steps_c a b _ (by omega) (by omega) (by omega)).mono ?_)); rintro e W ⟨rfl, HM'⟩; replace HM := HM.keep HM'.below; clear HM'))); refine ⟨HM.held (by simp), ?_⟩; clear HS1 HS2; have HS1 : Held w W [.blk b1 #[.int .i64 a, .int .i64 b, v] 52] := HM.held (by simp); have HS2 : Held w W [.blk b1 #[.int .i64 a, .int .i64 b, v] 52] := HM.held (by simp)))
      ((refine wm_g2 (i := 29) (some 32) rfl rfl (by rfl) HS2 (fun W HS => by (go_simp; try with_reducible rfl)) ?_))
      simp only [Act.put, List.getElem_toArray, List.getElem_cons_succ, List.getElem_cons_zero, List.setIfInBounds_toArray, List.set_cons_succ, List.set_cons_zero]
      refine wm_q2 (i := 30) (some 33) rfl rfl rfl HS2 (fun W HS => by (go_simp; try with_reducible rfl)) ?_
      simp only [Act.put, List.getElem_toArray, List.getElem_cons_succ, List.getElem_cons_zero, List.setIfInBounds_toArray, List.set_cons_succ, List.set_cons_zero]
      refine wm_q2 (i := 31) (some 2) rfl rfl rfl HS2 (fun W HS => by (go_simp; try with_reducible rfl)) ?_
      simp only [Act.put, List.getElem_toArray, List.getElem_cons_succ, List.getElem_cons_zero, List.setIfInBounds_toArray, List.set_cons_succ, List.set_cons_zero]
      refine wm_nilN ?_
      clear HS1 HS2
      go_wp2_with (fail)
      refine ret1 rfl (res_tmp rfl) rfl ?_
      exact ⟨by simp [hl]; omega, HM.base⟩
  · rw [fitB_no n i path.length h]
    by_cases c1 : n < 1
    · have e1 : decide (1 ≤ n) = false := by simp; omega
      clear h
      go_enter Try.func77, Try.ntmps77
      go_wp2_with (first
        | ((with_reducible refine s_ 1 ?_); go_must (refine wl_box (dst := some 1) (cs := #[.int .i64 n, .int .i64 i, v]) _ _ _ rfl rfl HM ?_; clear HM; intro b1 W HM)))
      replace HM := HM.drew
      refine wp_region_mixN (fun W => Held w W [.blk b1 #[.int .i64 n, .int .i64 i, v] 52]) (fun W => Held w W [.blk b1 #[.int .i64 n, .int .i64 i, v] 52]) (.cons (2, 0) (.cons (2, 1) (.cons (2, 2) (.cons (2, 3) (.cons (2, 4) (.cons (2, 5) (.cons (2, 6) (.cons (2, 7) (.cons (2, 8) (.cons (2, 9) (.cons (2, 10) (.cons (2, 11) (.cons (2, 12) (.cons (2, 13) (.cons (2, 14) (.cons (2, 15) (.cons (2, 16) (.cons (2, 17) (.cons (2, 18) (.cons (2, 19) (.cons (2, 20) (.cons (2, 21) (.cons (2, 22) (.cons (2, 23) (.cons (2, 24) (.cons (2, 25) (.cons (2, 26) (.cons (2, 27) (.cons (0, 28) (.cons (2, 29) (.cons (2, 30) (.cons (2, 31) .nil)))))))))))))))))))))))))))))))) [] (by kernel_rfl) (by kernel_rfl) (by kernel_rfl) (fun W h => Held.weak h (by simp)) (HM.held (by simp)) ?_
      revert HM; generalize World.drew _ = W; intro HM
      have HS1 : Held w W [.blk b1 #[.int .i64 n, .int .i64 i, v] 52] := HM.held (by simp)
      have HS2 : Held w W [.blk b1 #[.int .i64 n, .int .i64 i, v] 52] := HM.held (by simp)
      refine wm_q2 (i := 0) (some 3) rfl rfl rfl HS2 (fun W HS => by (go_simp; try with_reducible rfl)) ?_
      simp only [Act.put, List.getElem_toArray, List.getElem_cons_succ, List.getElem_cons_zero, List.setIfInBounds_toArray, List.set_cons_succ, List.set_cons_zero]
      refine wm_q2 (i := 1) (some 4) rfl rfl rfl HS2 (fun W HS => (by (exact ry_load_cell _ _ _ _ _ _ _ _ HS rfl m0 rfl Try.underlying3 rfl))) ?_
      simp only [Act.put, List.getElem_toArray, List.getElem_cons_succ, List.getElem_cons_zero, List.setIfInBounds_toArray, List.set_cons_succ, List.set_cons_zero]
      refine wm_q2 (i := 2) (some 5) rfl rfl rfl HS2 (fun W HS => by (go_simp; try with_reducible rfl)) ?_
      simp only [Act.put, List.getElem_toArray, List.getElem_cons_succ, List.getElem_cons_zero, List.setIfInBounds_toArray, List.set_cons_succ, List.set_cons_zero]
      refine wm_q2 (i := 3) (some 6) rfl rfl rfl HS2 (fun W HS => by (go_simp; try with_reducible rfl)) ?_
      simp only [Act.put, List.getElem_toArray, List.getElem_cons_succ, List.getElem_cons_zero, List.setIfInBounds_toArray, List.set_cons_succ, List.set_cons_zero]
      ((refine wm_s2 (i := 4) (some 7) rfl rfl (by rfl) HS2 ?_))
      simp only [Act.put, List.getElem_toArray, List.getElem_cons_succ, List.getElem_cons_zero, List.setIfInBounds_toArray, List.set_cons_succ, List.set_cons_zero]
      ((refine wm_s2 (i := 5) (some 8) rfl rfl (by rfl) HS2 ?_))
      simp only [Act.put, List.getElem_toArray, List.getElem_cons_succ, List.getElem_cons_zero, List.setIfInBounds_toArray, List.set_cons_succ, List.set_cons_zero]
      ((refine wm_s2 (i := 6) (some 9) rfl rfl (by rfl) HS2 ?_))
      simp only [Act.put, List.getElem_toArray, List.getElem_cons_succ, List.getElem_cons_zero, List.setIfInBounds_toArray, List.set_cons_succ, List.set_cons_zero]
      refine wm_q2 (i := 7) (some 10) rfl rfl rfl HS2 (fun W HS => by (go_simp; try with_reducible rfl)) ?_
      simp only [Act.put, List.getElem_toArray, List.getElem_cons_succ, List.getElem_cons_zero, List.setIfInBounds_toArray, List.set_cons_succ, List.set_cons_zero]
      refine wm_q2 (i := 8) (some 11) rfl rfl rfl HS2 (fun W HS => by (go_simp; try with_reducible rfl)) ?_
      simp only [Act.put, List.getElem_toArray, List.getElem_cons_succ, List.getElem_cons_zero, List.setIfInBounds_toArray, List.set_cons_succ, List.set_cons_zero]
      ((refine wm_s2 (i := 9) (some 12) rfl rfl (by rfl) HS2 ?_))
      simp only [Act.put, List.getElem_toArray, List.getElem_cons_succ, List.getElem_cons_zero, List.setIfInBounds_toArray, List.set_cons_succ, List.set_cons_zero]
      ((refine wm_s2 (i := 10) (some 13) rfl rfl (by rfl) HS2 ?_))
      simp only [Act.put, List.getElem_toArray, List.getElem_cons_succ, List.getElem_cons_zero, List.setIfInBounds_toArray, List.set_cons_succ, List.set_cons_zero]
      ((refine wm_s2 (i := 11) (some 14) rfl rfl (by rfl) HS2 ?_))
      simp only [Act.put, List.getElem_toArray, List.getElem_cons_succ, List.getElem_cons_zero, List.setIfInBounds_toArray, List.set_cons_succ, List.set_cons_zero]
      refine wm_q2 (i := 12) (some 15) rfl rfl rfl HS2 (fun W HS => by (go_simp; try with_reducible rfl)) ?_
      simp only [Act.put, List.getElem_toArray, List.getElem_cons_succ, List.getElem_cons_zero, List.setIfInBounds_toArray, List.set_cons_succ, List.set_cons_zero]
      refine wm_q2 (i := 13) (some 16) rfl rfl rfl HS2 (fun W HS => by (go_simp; try with_reducible rfl)) ?_
      simp only [Act.put, List.getElem_toArray, List.getElem_cons_succ, List.getElem_cons_zero, List.setIfInBounds_toArray, List.set_cons_succ, List.set_cons_zero]
      ((refine wm_s2 (i := 14) (some 17) rfl rfl (by rfl) HS2 ?_))
      simp only [Act.put, List.getElem_toArray, List.getElem_cons_succ, List.getElem_cons_zero, List.setIfInBounds_toArray, List.set_cons_succ, List.set_cons_zero]
      ((refine wm_s2 (i := 15) (some 18) rfl rfl (by rfl) HS2 ?_))
      simp only [Act.put, List.getElem_toArray, List.getElem_cons_succ, List.getElem_cons_zero, List.setIfInBounds_toArray, List.set_cons_succ, List.set_cons_zero]
      ((refine wm_s2 (i := 16) (some 19) rfl rfl (by rfl) HS2 ?_))
      simp only [Act.put, List.getElem_toArray, List.getElem_cons_succ, List.getElem_cons_zero, List.setIfInBounds_toArray, List.set_cons_succ, List.set_cons_zero]
      ((refine wm_s2 (i := 17) (some 20) rfl rfl (by rfl) HS2 ?_))
      simp only [Act.put, List.getElem_toArray, List.getElem_cons_succ, List.getElem_cons_zero, List.setIfInBounds_toArray, List.set_cons_succ, List.set_cons_zero]
      ((refine wm_s2 (i := 18) (some 21) rfl rfl (by rfl) HS2 ?_))
      simp only [Act.put, List.getElem_toArray, List.getElem_cons_succ, List.getElem_cons_zero, List.setIfInBounds_toArray, List.set_cons_succ, List.set_cons_zero]
      refine wm_q2 (i := 19) (some 22) rfl rfl rfl HS2 (fun W HS => by (go_simp; try with_reducible rfl)) ?_
      simp only [Act.put, List.getElem_toArray, List.getElem_cons_succ, List.getElem_cons_zero, List.setIfInBounds_toArray, List.set_cons_succ, List.set_cons_zero]
      refine wm_q2 (i := 20) (some 23) rfl rfl rfl HS2 (fun W HS => by (go_simp; try with_reducible rfl)) ?_
      simp only [Act.put, List.getElem_toArray, List.getElem_cons_succ, List.getElem_cons_zero, List.setIfInBounds_toArray, List.set_cons_succ, List.set_cons_zero]
      ((refine wm_s2 (i := 21) (some 24) rfl rfl (by rfl) HS2 ?_))
      simp only [Act.put, List.getElem_toArray, List.getElem_cons_succ, List.getElem_cons_zero, List.setIfInBounds_toArray, List.set_cons_succ, List.set_cons_zero]
      ((refine wm_s2 (i := 22) (some 25) rfl rfl (by rfl) HS2 ?_))
      simp only [Act.put, List.getElem_toArray, List.getElem_cons_succ, List.getElem_cons_zero, List.setIfInBounds_toArray, List.set_cons_succ, List.set_cons_zero]
      ((refine wm_s2 (i := 23) (some 26) rfl rfl (by rfl) HS2 ?_))
      simp only [Act.put, List.getElem_toArray, List.getElem_cons_succ, List.getElem_cons_zero, List.setIfInBounds_toArray, List.set_cons_succ, List.set_cons_zero]
      ((refine wm_s2 (i := 24) (some 27) rfl rfl (by rfl) HS2 ?_))
      simp only [Act.put, List.getElem_toArray, List.getElem_cons_succ, List.getElem_cons_zero, List.setIfInBounds_toArray, List.set_cons_succ, List.set_cons_zero]
      ((refine wm_s2 (i := 25) (some 28) rfl rfl (by rfl) HS2 ?_))
      simp only [Act.put, List.getElem_toArray, List.getElem_cons_succ, List.getElem_cons_zero, List.setIfInBounds_toArray, List.set_cons_succ, List.set_cons_zero]
      ((refine wm_s2 (i := 26) (some 29) rfl rfl (by rfl) HS2 ?_))
      simp only [Act.put, List.getElem_toArray, List.getElem_cons_succ, List.getElem_cons_zero, List.setIfInBounds_toArray, List.set_cons_succ, List.set_cons_zero]
      ((refine wm_s2 (i := 27) (some 30) rfl rfl (by rfl) HS2 ?_))
      simp only [Act.put, List.getElem_toArray, List.getElem_cons_succ, List.getElem_cons_zero, List.setIfInBounds_toArray, List.set_cons_succ, List.set_cons_zero]
      ((refine wm_es0 (i := 28) (some 31) rfl rfl (by rfl) HS1 ?_; simp only [Act.put, List.getElem_toArray, List.getElem_cons_succ, List.getElem_cons_zero, List.setIfInBounds_toArray, List.set_cons_succ, List.set_cons_zero]))
      ((refine wm_s2 (i := 29) (some 32) rfl rfl (by rfl) HS2 ?_))
      simp only [Act.put, List.getElem_toArray, List.getElem_cons_succ, List.getElem_cons_zero, List.setIfInBounds_toArray, List.set_cons_succ, List.set_cons_zero]
      refine wm_q2 (i := 30) (some 33) rfl rfl rfl HS2 (fun W HS => by (go_simp; try with_reducible rfl)) ?_
      simp only [Act.put, List.getElem_toArray, List.getElem_cons_succ, List.getElem_cons_zero, List.setIfInBounds_toArray, List.set_cons_succ, List.set_cons_zero]
      refine wm_q2 (i := 31) (some 2) rfl rfl rfl HS2 (fun W HS => by (go_simp; try with_reducible rfl)) ?_
      simp only [Act.put, List.getElem_toArray, List.getElem_cons_succ, List.getElem_cons_zero, List.setIfInBounds_toArray, List.set_cons_succ, List.set_cons_zero]
      refine wm_nilN ?_
      clear HS1 HS2
      go_wp2_with (fail)
      refine ret1 rfl (res_tmp rfl) rfl ?_
      exact ⟨rfl, HM.base⟩
    · by_cases c2 : 128 < n
      · have e1 : 1 ≤ n := by omega
        have e2 : decide (n ≤ 128) = false := by simp; omega
        clear h
        go_enter Try.func77, Try.ntmps77
        go_wp2_with (first
          | ((with_reducible refine s_ 1 ?_); go_must (refine wl_box (dst := some 1) (cs := #[.int .i64 n, .int .i64 i, v]) _ _ _ rfl rfl HM ?_; clear HM; intro b1 W HM)))
        replace HM := HM.drew
        refine wp_region_mixN (fun W => Held w W [.blk b1 #[.int .i64 n, .int .i64 i, v] 52]) (fun W => Held w W [.blk b1 #[.int .i64 n, .int .i64 i, v] 52]) (.cons (2, 0) (.cons (2, 1) (.cons (2, 2) (.cons (2, 3) (.cons (2, 4) (.cons (2, 5) (.cons (2, 6) (.cons (2, 7) (.cons (2, 8) (.cons (2, 9) (.cons (2, 10) (.cons (2, 11) (.cons (2, 12) (.cons (2, 13) (.cons (2, 14) (.cons (2, 15) (.cons (2, 16) (.cons (2, 17) (.cons (2, 18) (.cons (2, 19) (.cons (2, 20) (.cons (2, 21) (.cons (2, 22) (.cons (2, 23) (.cons (2, 24) (.cons (2, 25) (.cons (2, 26) (.cons (2, 27) (.cons (0, 28) (.cons (2, 29) (.cons (2, 30) (.cons (2, 31) .nil)))))))))))))))))))))))))))))))) [] (by kernel_rfl) (by kernel_rfl) (by kernel_rfl) (fun W h => Held.weak h (by simp)) (HM.held (by simp)) ?_
        revert HM; generalize World.drew _ = W; intro HM
        have HS1 : Held w W [.blk b1 #[.int .i64 n, .int .i64 i, v] 52] := HM.held (by simp)
        have HS2 : Held w W [.blk b1 #[.int .i64 n, .int .i64 i, v] 52] := HM.held (by simp)
        refine wm_q2 (i := 0) (some 3) rfl rfl rfl HS2 (fun W HS => by (go_simp; try with_reducible rfl)) ?_
        simp only [Act.put, List.getElem_toArray, List.getElem_cons_succ, List.getElem_cons_zero, List.setIfInBounds_toArray, List.set_cons_succ, List.set_cons_zero]
        refine wm_q2 (i := 1) (some 4) rfl rfl rfl HS2 (fun W HS => (by (exact ry_load_cell _ _ _ _ _ _ _ _ HS rfl m0 rfl Try.underlying3 rfl))) ?_
        simp only [Act.put, List.getElem_toArray, List.getElem_cons_succ, List.getElem_cons_zero, List.setIfInBounds_toArray, List.set_cons_succ, List.set_cons_zero]
        refine wm_q2 (i := 2) (some 5) rfl rfl rfl HS2 (fun W HS => by (go_simp; try with_reducible rfl)) ?_
        simp only [Act.put, List.getElem_toArray, List.getElem_cons_succ, List.getElem_cons_zero, List.setIfInBounds_toArray, List.set_cons_succ, List.set_cons_zero]
        refine wm_q2 (i := 3) (some 6) rfl rfl rfl HS2 (fun W HS => by (go_simp; try with_reducible rfl)) ?_
        simp only [Act.put, List.getElem_toArray, List.getElem_cons_succ, List.getElem_cons_zero, List.setIfInBounds_toArray, List.set_cons_succ, List.set_cons_zero]
        ((refine wm_g2 (i := 4) (some 7) rfl rfl (by rfl) HS2 (fun W HS => by (go_simp; try with_reducible rfl)) ?_))
        simp only [Act.put, List.getElem_toArray, List.getElem_cons_succ, List.getElem_cons_zero, List.setIfInBounds_toArray, List.set_cons_succ, List.set_cons_zero]
        ((refine wm_g2 (i := 5) (some 8) rfl rfl (by rfl) HS2 (fun W HS => (by (exact ry_load_cell _ _ _ _ _ _ _ _ HS rfl m0 rfl Try.underlying3 rfl))) ?_))
        simp only [Act.put, List.getElem_toArray, List.getElem_cons_succ, List.getElem_cons_zero, List.setIfInBounds_toArray, List.set_cons_succ, List.set_cons_zero]
        ((refine wm_g2 (i := 6) (some 9) rfl rfl (by rfl) HS2 (fun W HS => by (go_simp; try with_reducible rfl)) ?_))
        simp only [Act.put, List.getElem_toArray, List.getElem_cons_succ, List.getElem_cons_zero, List.setIfInBounds_toArray, List.set_cons_succ, List.set_cons_zero]
        refine wm_q2 (i := 7) (some 10) rfl rfl rfl HS2 (fun W HS => by (go_simp; try with_reducible rfl)) ?_
        simp only [Act.put, List.getElem_toArray, List.getElem_cons_succ, List.getElem_cons_zero, List.setIfInBounds_toArray, List.set_cons_succ, List.set_cons_zero]
        refine wm_q2 (i := 8) (some 11) rfl rfl rfl HS2 (fun W HS => by (go_simp; try with_reducible rfl)) ?_
        simp only [Act.put, List.getElem_toArray, List.getElem_cons_succ, List.getElem_cons_zero, List.setIfInBounds_toArray, List.set_cons_succ, List.set_cons_zero]
        ((refine wm_s2 (i := 9) (some 12) rfl rfl (by rfl) HS2 ?_))
        simp only [Act.put, List.getElem_toArray, List.getElem_cons_succ, List.getElem_cons_zero, List.setIfInBounds_toArray, List.set_cons_succ, List.set_cons_zero]
        ((refine wm_s2 (i := 10) (some 13) rfl rfl (by rfl) HS2 ?_))
        simp only [Act.put, List.getElem_toArray, List.getElem_cons_succ, List.getElem_cons_zero, List.setIfInBounds_toArray, List.set_cons_succ, List.set_cons_zero]
        ((refine wm_s2 (i := 11) (some 14) rfl rfl (by rfl) HS2 ?_))
        simp only [Act.put, List.getElem_toArray, List.getElem_cons_succ, List.getElem_cons_zero, List.setIfInBounds_toArray, List.set_cons_succ, List.set_cons_zero]
        refine wm_q2 (i := 12) (some 15) rfl rfl rfl HS2 (fun W HS => by (go_simp; try with_reducible rfl)) ?_
        simp only [Act.put, List.getElem_toArray, List.getElem_cons_succ, List.getElem_cons_zero, List.setIfInBounds_toArray, List.set_cons_succ, List.set_cons_zero]
        refine wm_q2 (i := 13) (some 16) rfl rfl rfl HS2 (fun W HS => by (go_simp; try with_reducible rfl)) ?_
        simp only [Act.put, List.getElem_toArray, List.getElem_cons_succ, List.getElem_cons_zero, List.setIfInBounds_toArray, List.set_cons_succ, List.set_cons_zero]
        ((refine wm_s2 (i := 14) (some 17) rfl rfl (by rfl) HS2 ?_))
        simp only [Act.put, List.getElem_toArray, List.getElem_cons_succ, List.getElem_cons_zero, List.setIfInBounds_toArray, List.set_cons_succ, List.set_cons_zero]
        ((refine wm_s2 (i := 15) (some 18) rfl rfl (by rfl) HS2 ?_))
        simp only [Act.put, List.getElem_toArray, List.getElem_cons_succ, List.getElem_cons_zero, List.setIfInBounds_toArray, List.set_cons_succ, List.set_cons_zero]
        ((refine wm_s2 (i := 16) (some 19) rfl rfl (by rfl) HS2 ?_))
        simp only [Act.put, List.getElem_toArray, List.getElem_cons_succ, List.getElem_cons_zero, List.setIfInBounds_toArray, List.set_cons_succ, List.set_cons_zero]
        ((refine wm_s2 (i := 17) (some 20) rfl rfl (by rfl) HS2 ?_))
        simp only [Act.put, List.getElem_toArray, List.getElem_cons_succ, List.getElem_cons_zero, List.setIfInBounds_toArray, List.set_cons_succ, List.set_cons_zero]
        ((refine wm_s2 (i := 18) (some 21) rfl rfl (by rfl) HS2 ?_))
        simp only [Act.put, List.getElem_toArray, List.getElem_cons_succ, List.getElem_cons_zero, List.setIfInBounds_toArray, List.set_cons_succ, List.set_cons_zero]
        refine wm_q2 (i := 19) (some 22) rfl rfl rfl HS2 (fun W HS => by (go_simp; try with_reducible rfl)) ?_
        simp only [Act.put, List.getElem_toArray, List.getElem_cons_succ, List.getElem_cons_zero, List.setIfInBounds_toArray, List.set_cons_succ, List.set_cons_zero]
        refine wm_q2 (i := 20) (some 23) rfl rfl rfl HS2 (fun W HS => by (go_simp; try with_reducible rfl)) ?_
        simp only [Act.put, List.getElem_toArray, List.getElem_cons_succ, List.getElem_cons_zero, List.setIfInBounds_toArray, List.set_cons_succ, List.set_cons_zero]
        ((refine wm_s2 (i := 21) (some 24) rfl rfl (by rfl) HS2 ?_))
        simp only [Act.put, List.getElem_toArray, List.getElem_cons_succ, List.getElem_cons_zero, List.setIfInBounds_toArray, List.set_cons_succ, List.set_cons_zero]
        ((refine wm_s2 (i := 22) (some 25) rfl rfl (by rfl) HS2 ?_))
        simp only [Act.put, List.getElem_toArray, List.getElem_cons_succ, List.getElem_cons_zero, List.setIfInBounds_toArray, List.set_cons_succ, List.set_cons_zero]
        ((refine wm_s2 (i := 23) (some 26) rfl rfl (by rfl) HS2 ?_))
        simp only [Act.put, List.getElem_toArray, List.getElem_cons_succ, List.getElem_cons_zero, List.setIfInBounds_toArray, List.set_cons_succ, List.set_cons_zero]
        ((refine wm_s2 (i := 24) (some 27) rfl rfl (by rfl) HS2 ?_))
        simp only [Act.put, List.getElem_toArray, List.getElem_cons_succ, List.getElem_cons_zero, List.setIfInBounds_toArray, List.set_cons_succ, List.set_cons_zero]
        ((refine wm_s2 (i := 25) (some 28) rfl rfl (by rfl) HS2 ?_))
        simp only [Act.put, List.getElem_toArray, List.getElem_cons_succ, List.getElem_cons_zero, List.setIfInBounds_toArray, List.set_cons_succ, List.set_cons_zero]
        ((refine wm_s2 (i := 26) (some 29) rfl rfl (by rfl) HS2 ?_))
        simp only [Act.put, List.getElem_toArray, List.getElem_cons_succ, List.getElem_cons_zero, List.setIfInBounds_toArray, List.set_cons_succ, List.set_cons_zero]
        ((refine wm_s2 (i := 27) (some 30) rfl rfl (by rfl) HS2 ?_))
        simp only [Act.put, List.getElem_toArray, List.getElem_cons_succ, List.getElem_cons_zero, List.setIfInBounds_toArray, List.set_cons_succ, List.set_cons_zero]
        ((refine wm_es0 (i := 28) (some 31) rfl rfl (by rfl) HS1 ?_; simp only [Act.put, List.getElem_toArray, List.getElem_cons_succ, List.getElem_cons_zero, List.setIfInBounds_toArray, List.set_cons_succ, List.set_cons_zero]))
        ((refine wm_s2 (i := 29) (some 32) rfl rfl (by rfl) HS2 ?_))
        simp only [Act.put, List.getElem_toArray, List.getElem_cons_succ, List.getElem_cons_zero, List.setIfInBounds_toArray, List.set_cons_succ, List.set_cons_zero]
        refine wm_q2 (i := 30) (some 33) rfl rfl rfl HS2 (fun W HS => by (go_simp; try with_reducible rfl)) ?_
        simp only [Act.put, List.getElem_toArray, List.getElem_cons_succ, List.getElem_cons_zero, List.setIfInBounds_toArray, List.set_cons_succ, List.set_cons_zero]
        refine wm_q2 (i := 31) (some 2) rfl rfl rfl HS2 (fun W HS => by (go_simp; try with_reducible rfl)) ?_
        simp only [Act.put, List.getElem_toArray, List.getElem_cons_succ, List.getElem_cons_zero, List.setIfInBounds_toArray, List.set_cons_succ, List.set_cons_zero]
        refine wm_nilN ?_
        clear HS1 HS2
        go_wp2_with (fail)
        refine ret1 rfl (res_tmp rfl) rfl ?_
        exact ⟨rfl, HM.base⟩
      · by_cases c3 : i < 0
        · have e1 : 1 ≤ n := by omega
          have e2 : n ≤ 128 := by omega
          have e3 : decide (0 ≤ i) = false := by simp; omega
          clear h
          go_enter Try.func77, Try.ntmps77
          go_wp2_with (first
            | ((with_reducible refine s_ 1 ?_); go_must (refine wl_box (dst := some 1) (cs := #[.int .i64 n, .int .i64 i, v]) _ _ _ rfl rfl HM ?_; clear HM; intro b1 W HM)))
          replace HM := HM.drew
          refine wp_region_mixN (fun W => Held w W [.blk b1 #[.int .i64 n, .int .i64 i, v] 52]) (fun W => Held w W [.blk b1 #[.int .i64 n, .int .i64 i, v] 52]) (.cons (2, 0) (.cons (2, 1) (.cons (2, 2) (.cons (2, 3) (.cons (2, 4) (.cons (2, 5) (.cons (2, 6) (.cons (2, 7) (.cons (2, 8) (.cons (2, 9) (.cons (2, 10) (.cons (2, 11) (.cons (2, 12) (.cons (2, 13) (.cons (2, 14) (.cons (2, 15) (.cons (2, 16) (.cons (2, 17) (.cons (2, 18) (.cons (2, 19) (.cons (2, 20) (.cons (2, 21) (.cons (2, 22) (.cons (2, 23) (.cons (2, 24) (.cons (2, 25) (.cons (2, 26) (.cons (2, 27) (.cons (0, 28) (.cons (2, 29) (.cons (2, 30) (.cons (2, 31) .nil)))))))))))))))))))))))))))))))) [] (by kernel_rfl) (by kernel_rfl) (by kernel_rfl) (fun W h => Held.weak h (by simp)) (HM.held (by simp)) ?_
          revert HM; generalize World.drew _ = W; intro HM
          have HS1 : Held w W [.blk b1 #[.int .i64 n, .int .i64 i, v] 52] := HM.held (by simp)
          have HS2 : Held w W [.blk b1 #[.int .i64 n, .int .i64 i, v] 52] := HM.held (by simp)
          refine wm_q2 (i := 0) (some 3) rfl rfl rfl HS2 (fun W HS => by (go_simp; try with_reducible rfl)) ?_
          simp only [Act.put, List.getElem_toArray, List.getElem_cons_succ, List.getElem_cons_zero, List.setIfInBounds_toArray, List.set_cons_succ, List.set_cons_zero]
          refine wm_q2 (i := 1) (some 4) rfl rfl rfl HS2 (fun W HS => (by (exact ry_load_cell _ _ _ _ _ _ _ _ HS rfl m0 rfl Try.underlying3 rfl))) ?_
          simp only [Act.put, List.getElem_toArray, List.getElem_cons_succ, List.getElem_cons_zero, List.setIfInBounds_toArray, List.set_cons_succ, List.set_cons_zero]
          refine wm_q2 (i := 2) (some 5) rfl rfl rfl HS2 (fun W HS => by (go_simp; try with_reducible rfl)) ?_
          simp only [Act.put, List.getElem_toArray, List.getElem_cons_succ, List.getElem_cons_zero, List.setIfInBounds_toArray, List.set_cons_succ, List.set_cons_zero]
          refine wm_q2 (i := 3) (some 6) rfl rfl rfl HS2 (fun W HS => by (go_simp; try with_reducible rfl)) ?_
          simp only [Act.put, List.getElem_toArray, List.getElem_cons_succ, List.getElem_cons_zero, List.setIfInBounds_toArray, List.set_cons_succ, List.set_cons_zero]
          ((refine wm_g2 (i := 4) (some 7) rfl rfl (by rfl) HS2 (fun W HS => by (go_simp; try with_reducible rfl)) ?_))
          simp only [Act.put, List.getElem_toArray, List.getElem_cons_succ, List.getElem_cons_zero, List.setIfInBounds_toArray, List.set_cons_succ, List.set_cons_zero]
          ((refine wm_g2 (i := 5) (some 8) rfl rfl (by rfl) HS2 (fun W HS => (by (exact ry_load_cell _ _ _ _ _ _ _ _ HS rfl m0 rfl Try.underlying3 rfl))) ?_))
          simp only [Act.put, List.getElem_toArray, List.getElem_cons_succ, List.getElem_cons_zero, List.setIfInBounds_toArray, List.set_cons_succ, List.set_cons_zero]
          ((refine wm_g2 (i := 6) (some 9) rfl rfl (by rfl) HS2 (fun W HS => by (go_simp; try with_reducible rfl)) ?_))
          simp only [Act.put, List.getElem_toArray, List.getElem_cons_succ, List.getElem_cons_zero, List.setIfInBounds_toArray, List.set_cons_succ, List.set_cons_zero]
          refine wm_q2 (i := 7) (some 10) rfl rfl rfl HS2 (fun W HS => by (go_simp; try with_reducible rfl)) ?_
          simp only [Act.put, List.getElem_toArray, List.getElem_cons_succ, List.getElem_cons_zero, List.setIfInBounds_toArray, List.set_cons_succ, List.set_cons_zero]
          refine wm_q2 (i := 8) (some 11) rfl rfl rfl HS2 (fun W HS => by (go_simp; try with_reducible rfl)) ?_
          simp only [Act.put, List.getElem_toArray, List.getElem_cons_succ, List.getElem_cons_zero, List.setIfInBounds_toArray, List.set_cons_succ, List.set_cons_zero]
          ((refine wm_g2 (i := 9) (some 12) rfl rfl (by rfl) HS2 (fun W HS => by (go_simp; try with_reducible rfl)) ?_))
          simp only [Act.put, List.getElem_toArray, List.getElem_cons_succ, List.getElem_cons_zero, List.setIfInBounds_toArray, List.set_cons_succ, List.set_cons_zero]
          ((refine wm_g2 (i := 10) (some 13) rfl rfl (by rfl) HS2 (fun W HS => (by (exact ry_load_cell _ _ _ _ _ _ _ _ HS rfl m0 rfl Try.underlying3 rfl))) ?_))
          simp only [Act.put, List.getElem_toArray, List.getElem_cons_succ, List.getElem_cons_zero, List.setIfInBounds_toArray, List.set_cons_succ, List.set_cons_zero]
          ((refine wm_g2 (i := 11) (some 14) rfl rfl (by rfl) HS2 (fun W HS => by (go_simp; try with_reducible rfl)) ?_))
          simp only [Act.put, List.getElem_toArray, List.getElem_cons_succ, List.getElem_cons_zero, List.setIfInBounds_toArray, List.set_cons_succ, List.set_cons_zero]
          refine wm_q2 (i := 12) (some 15) rfl rfl rfl HS2 (fun W HS => by (go_simp; try with_reducible rfl)) ?_
          simp only [Act.put, List.getElem_toArray, List.getElem_cons_succ, List.getElem_cons_zero, List.setIfInBounds_toArray, List.set_cons_succ, List.set_cons_zero]
          refine wm_q2 (i := 13) (some 16) rfl rfl rfl HS2 (fun W HS => by (go_simp; try with_reducible rfl)) ?_
          simp only [Act.put, List.getElem_toArray, List.getElem_cons_succ, List.getElem_cons_zero, List.setIfInBounds_toArray, List.set_cons_succ, List.set_cons_zero]
          ((refine wm_s2 (i := 14) (some 17) rfl rfl (by rfl) HS2 ?_))
          simp only [Act.put, List.getElem_toArray, List.getElem_cons_succ, List.getElem_cons_zero, List.setIfInBounds_toArray, List.set_cons_succ, List.set_cons_zero]
          ((refine wm_s2 (i := 15) (some 18) rfl rfl (by rfl) HS2 ?_))
          simp only [Act.put, List.getElem_toArray, List.getElem_cons_succ, List.getElem_cons_zero, List.setIfInBounds_toArray, List.set_cons_succ, List.set_cons_zero]
          ((refine wm_s2 (i := 16) (some 19) rfl rfl (by rfl) HS2 ?_))
          simp only [Act.put, List.getElem_toArray, List.getElem_cons_succ, List.getElem_cons_zero, List.setIfInBounds_toArray, List.set_cons_succ, List.set_cons_zero]
          ((refine wm_s2 (i := 17) (some 20) rfl rfl (by rfl) HS2 ?_))
          simp only [Act.put, List.getElem_toArray, List.getElem_cons_succ, List.getElem_cons_zero, List.setIfInBounds_toArray, List.set_cons_succ, List.set_cons_zero]
          ((refine wm_s2 (i := 18) (some 21) rfl rfl (by rfl) HS2 ?_))
          simp only [Act.put, List.getElem_toArray, List.getElem_cons_succ, List.getElem_cons_zero, List.setIfInBounds_toArray, List.set_cons_succ, List.set_cons_zero]
          refine wm_q2 (i := 19) (some 22) rfl rfl rfl HS2 (fun W HS => by (go_simp; try with_reducible rfl)) ?_
          simp only [Act.put, List.getElem_toArray, List.getElem_cons_succ, List.getElem_cons_zero, List.setIfInBounds_toArray, List.set_cons_succ, List.set_cons_zero]
          refine wm_q2 (i := 20) (some 23) rfl rfl rfl HS2 (fun W HS => by (go_simp; try with_reducible rfl)) ?_
          simp only [Act.put, List.getElem_toArray, List.getElem_cons_succ, List.getElem_cons_zero, List.setIfInBounds_toArray, List.set_cons_succ, List.set_cons_zero]
          ((refine wm_s2 (i := 21) (some 24) rfl rfl (by rfl) HS2 ?_))
          simp only [Act.put, List.getElem_toArray, List.getElem_cons_succ, List.getElem_cons_zero, List.setIfInBounds_toArray, List.set_cons_succ, List.set_cons_zero]
          ((refine wm_s2 (i := 22) (some 25) rfl rfl (by rfl) HS2 ?_))
          simp only [Act.put, List.getElem_toArray, List.getElem_cons_succ, List.getElem_cons_zero, List.setIfInBounds_toArray, List.set_cons_succ, List.set_cons_zero]
          ((refine wm_s2 (i := 23) (some 26) rfl rfl (by rfl) HS2 ?_))
          simp only [Act.put, List.getElem_toArray, List.getElem_cons_succ, List.getElem_cons_zero, List.setIfInBounds_toArray, List.set_cons_succ, List.set_cons_zero]
          ((refine wm_s2 (i := 24) (some 27) rfl rfl (by rfl) HS2 ?_))
          simp only [Act.put, List.getElem_toArray, List.getElem_cons_succ, List.getElem_cons_zero, List.setIfInBounds_toArray, List.set_cons_succ, List.set_cons_zero]
          ((refine wm_s2 (i := 25) (some 28) rfl rfl (by rfl) HS2 ?_))
          simp only [Act.put, List.getElem_toArray, List.getElem_cons_succ, List.getElem_cons_zero, List.setIfInBounds_toArray, List.set_cons_succ, List.set_cons_zero]
          ((refine wm_s2 (i := 26) (some 29) rfl rfl (by rfl) HS2 ?_))
          simp only [Act.put, List.getElem_toArray, List.getElem_cons_succ, List.getElem_cons_zero, List.setIfInBounds_toArray, List.set_cons_succ, List.set_cons_zero]
          ((refine wm_s2 (i := 27) (some 30) rfl rfl (by rfl) HS2 ?_))
          simp only [Act.put, List.getElem_toArray, List.getElem_cons_succ, List.getElem_cons_zero, List.setIfInBounds_toArray, List.set_cons_succ, List.set_cons_zero]
          ((refine wm_es0 (i := 28) (some 31) rfl rfl (by rfl) HS1 ?_; simp only [Act.put, List.getElem_toArray, List.getElem_cons_succ, List.getElem_cons_zero, List.setIfInBounds_toArray, List.set_cons_succ, List.set_cons_zero]))
          ((refine wm_s2 (i := 29) (some 32) rfl rfl (by rfl) HS2 ?_))
          simp only [Act.put, List.getElem_toArray, List.getElem_cons_succ, List.getElem_cons_zero, List.setIfInBounds_toArray, List.set_cons_succ, List.set_cons_zero]
          refine wm_q2 (i := 30) (some 33) rfl rfl rfl HS2 (fun W HS => by (go_simp; try with_reducible rfl)) ?_
          simp only [Act.put, List.getElem_toArray, List.getElem_cons_succ, List.getElem_cons_zero, List.setIfInBounds_toArray, List.set_cons_succ, List.set_cons_zero]
          refine wm_q2 (i := 31) (some 2) rfl rfl rfl HS2 (fun W HS => by (go_simp; try with_reducible rfl)) ?_
          simp only [Act.put, List.getElem_toArray, List.getElem_cons_succ, List.getElem_cons_zero, List.setIfInBounds_toArray, List.set_cons_succ, List.set_cons_zero]
          refine wm_nilN ?_
          clear HS1 HS2
          go_wp2_with (fail)
          refine ret1 rfl (res_tmp rfl) rfl ?_
          exact ⟨rfl, HM.base⟩
        · have e1 : 1 ≤ n := by omega
          have e2 : n ≤ 128 := by omega
          have e3 : 0 ≤ i := by omega
          have e4 : decide (i < n) = false := by simp; omega
          clear h
          go_enter Try.func77, Try.ntmps77
          go_wp2_with (first
            | ((with_reducible refine s_ 1 ?_); go_must (refine wl_box (dst := some 1) (cs := #[.int .i64 n, .int .i64 i, v]) _ _ _ rfl rfl HM ?_; clear HM; intro b1 W HM)))
          replace HM := HM.drew
          refine wp_region_mixN (fun W => Held w W [.blk b1 #[.int .i64 n, .int .i64 i, v] 52]) (fun W => Held w W [.blk b1 #[.int .i64 n, .int .i64 i, v] 52]) (.cons (2, 0) (.cons (2, 1) (.cons (2, 2) (.cons (2, 3) (.cons (2, 4) (.cons (2, 5) (.cons (2, 6) (.cons (2, 7) (.cons (2, 8) (.cons (2, 9) (.cons (2, 10) (.cons (2, 11) (.cons (2, 12) (.cons (2, 13) (.cons (2, 14) (.cons (2, 15) (.cons (2, 16) (.cons (2, 17) (.cons (2, 18) (.cons (2, 19) (.cons (2, 20) (.cons (2, 21) (.cons (2, 22) (.cons (2, 23) (.cons (2, 24) (.cons (2, 25) (.cons (2, 26) (.cons (2, 27) (.cons (0, 28) (.cons (2, 29) (.cons (2, 30) (.cons (2, 31) .nil)))))))))))))))))))))))))))))))) [] (by kernel_rfl) (by kernel_rfl) (by kernel_rfl) (fun W h => Held.weak h (by simp)) (HM.held (by simp)) ?_
          revert HM; generalize World.drew _ = W; intro HM
          have HS1 : Held w W [.blk b1 #[.int .i64 n, .int .i64 i, v] 52] := HM.held (by simp)
          have HS2 : Held w W [.blk b1 #[.int .i64 n, .int .i64 i, v] 52] := HM.held (by simp)
          refine wm_q2 (i := 0) (some 3) rfl rfl rfl HS2 (fun W HS => by (go_simp; try with_reducible rfl)) ?_
          simp only [Act.put, List.getElem_toArray, List.getElem_cons_succ, List.getElem_cons_zero, List.setIfInBounds_toArray, List.set_cons_succ, List.set_cons_zero]
          refine wm_q2 (i := 1) (some 4) rfl rfl rfl HS2 (fun W HS => (by (exact ry_load_cell _ _ _ _ _ _ _ _ HS rfl m0 rfl Try.underlying3 rfl))) ?_
          simp only [Act.put, List.getElem_toArray, List.getElem_cons_succ, List.getElem_cons_zero, List.setIfInBounds_toArray, List.set_cons_succ, List.set_cons_zero]
          refine wm_q2 (i := 2) (some 5) rfl rfl rfl HS2 (fun W HS => by (go_simp; try with_reducible rfl)) ?_
          simp only [Act.put, List.getElem_toArray, List.getElem_cons_succ, List.getElem_cons_zero, List.setIfInBounds_toArray, List.set_cons_succ, List.set_cons_zero]
          refine wm_q2 (i := 3) (some 6) rfl rfl rfl HS2 (fun W HS => by (go_simp; try with_reducible rfl)) ?_
          simp only [Act.put, List.getElem_toArray, List.getElem_cons_succ, List.getElem_cons_zero, List.setIfInBounds_toArray, List.set_cons_succ, List.set_cons_zero]
          ((refine wm_g2 (i := 4) (some 7) rfl rfl (by rfl) HS2 (fun W HS => by (go_simp; try with_reducible rfl)) ?_))
          simp only [Act.put, List.getElem_toArray, List.getElem_cons_succ, List.getElem_cons_zero, List.setIfInBounds_toArray, List.set_cons_succ, List.set_cons_zero]
          ((refine wm_g2 (i := 5) (some 8) rfl rfl (by rfl) HS2 (fun W HS => (by (exact ry_load_cell _ _ _ _ _ _ _ _ HS rfl m0 rfl Try.underlying3 rfl))) ?_))
          simp only [Act.put, List.getElem_toArray, List.getElem_cons_succ, List.getElem_cons_zero, List.setIfInBounds_toArray, List.set_cons_succ, List.set_cons_zero]
          ((refine wm_g2 (i := 6) (some 9) rfl rfl (by rfl) HS2 (fun W HS => by (go_simp; try with_reducible rfl)) ?_))
          simp only [Act.put, List.getElem_toArray, List.getElem_cons_succ, List.getElem_cons_zero, List.setIfInBounds_toArray, List.set_cons_succ, List.set_cons_zero]
          refine wm_q2 (i := 7) (some 10) rfl rfl rfl HS2 (fun W HS => by (go_simp; try with_reducible rfl)) ?_
          simp only [Act.put, List.getElem_toArray, List.getElem_cons_succ, List.getElem_cons_zero, List.setIfInBounds_toArray, List.set_cons_succ, List.set_cons_zero]
          refine wm_q2 (i := 8) (some 11) rfl rfl rfl HS2 (fun W HS => by (go_simp; try with_reducible rfl)) ?_
          simp only [Act.put, List.getElem_toArray, List.getElem_cons_succ, List.getElem_cons_zero, List.setIfInBounds_toArray, List.set_cons_succ, List.set_cons_zero]
          ((refine wm_g2 (i := 9) (some 12) rfl rfl (by rfl) HS2 (fun W HS => by (go_simp; try with_reducible rfl)) ?_))
          simp only [Act.put, List.getElem_toArray, List.getElem_cons_succ, List.getElem_cons_zero, List.setIfInBounds_toArray, List.set_cons_succ, List.set_cons_zero]
          ((refine wm_g2 (i := 10) (some 13) rfl rfl (by rfl) HS2 (fun W HS => (by (exact ry_load_cell _ _ _ _ _ _ _ _ HS rfl m0 rfl Try.underlying3 rfl))) ?_))
          simp only [Act.put, List.getElem_toArray, List.getElem_cons_succ, List.getElem_cons_zero, List.setIfInBounds_toArray, List.set_cons_succ, List.set_cons_zero]
          ((refine wm_g2 (i := 11) (some 14) rfl rfl (by rfl) HS2 (fun W HS => by (go_simp; try with_reducible rfl)) ?_))
          simp only [Act.put, List.getElem_toArray, List.getElem_cons_succ, List.getElem_cons_zero, List.setIfInBounds_toArray, List.set_cons_succ, List.set_cons_zero]
          refine wm_q2 (i := 12) (some 15) rfl rfl rfl HS2 (fun W HS => by (go_simp; try with_reducible rfl)) ?_
          simp only [Act.put, List.getElem_toArray, List.getElem_cons_succ, List.getElem_cons_zero, List.setIfInBounds_toArray, List.set_cons_succ, List.set_cons_zero]
          refine wm_q2 (i := 13) (some 16) rfl rfl rfl HS2 (fun W HS => by (go_simp; try with_reducible rfl)) ?_
          simp only [Act.put, List.getElem_toArray, List.getElem_cons_succ, List.getElem_cons_zero, List.setIfInBounds_toArray, List.set_cons_succ, List.set_cons_zero]
          ((refine wm_g2 (i := 14) (some 17) rfl rfl (by rfl) HS2 (fun W HS => by (go_simp; try with_reducible rfl)) ?_))
          simp only [Act.put, List.getElem_toArray, List.getElem_cons_succ, List.getElem_cons_zero, List.setIfInBounds_toArray, List.set_cons_succ, List.set_cons_zero]
          ((refine wm_g2 (i := 15) (some 18) rfl rfl (by rfl) HS2 (fun W HS => (by (exact ry_load_cell _ _ _ _ _ _ _ _ HS rfl m0 rfl Try.underlying3 rfl))) ?_))
          simp only [Act.put, List.getElem_toArray, List.getElem_cons_succ, List.getElem_cons_zero, List.setIfInBounds_toArray, List.set_cons_succ, List.set_cons_zero]
          ((refine wm_g2 (i := 16) (some 19) rfl rfl (by rfl) HS2 (fun W HS => by (go_simp; try with_reducible rfl)) ?_))
          simp only [Act.put, List.getElem_toArray, List.getElem_cons_succ, List.getElem_cons_zero, List.setIfInBounds_toArray, List.set_cons_succ, List.set_cons_zero]
          ((refine wm_g2 (i := 17) (some 20) rfl rfl (by rfl) HS2 (fun W HS => (by (exact ry_load_cell _ _ _ _ _ _ _ _ HS rfl m0 rfl Try.underlying3 rfl))) ?_))
          simp only [Act.put, List.getElem_toArray, List.getElem_cons_succ, List.getElem_cons_zero, List.setIfInBounds_toArray, List.set_cons_succ, List.set_cons_zero]
          ((refine wm_g2 (i := 18) (some 21) rfl rfl (by rfl) HS2 (fun W HS => by (go_simp; try with_reducible rfl)) ?_))
          simp only [Act.put, List.getElem_toArray, List.getElem_cons_succ, List.getElem_cons_zero, List.setIfInBounds_toArray, List.set_cons_succ, List.set_cons_zero]
          refine wm_q2 (i := 19) (some 22) rfl rfl rfl HS2 (fun W HS => by (go_simp; try with_reducible rfl)) ?_
          simp only [Act.put, List.getElem_toArray, List.getElem_cons_succ, List.getElem_cons_zero, List.setIfInBounds_toArray, List.set_cons_succ, List.set_cons_zero]
          refine wm_q2 (i := 20) (some 23) rfl rfl rfl HS2 (fun W HS => by (go_simp; try with_reducible rfl)) ?_
          simp only [Act.put, List.getElem_toArray, List.getElem_cons_succ, List.getElem_cons_zero, List.setIfInBounds_toArray, List.set_cons_succ, List.set_cons_zero]
          ((refine wm_s2 (i := 21) (some 24) rfl rfl (by rfl) HS2 ?_))
          simp only [Act.put, List.getElem_toArray, List.getElem_cons_succ, List.getElem_cons_zero, List.setIfInBounds_toArray, List.set_cons_succ, List.set_cons_zero]
          ((refine wm_s2 (i := 22) (some 25) rfl rfl (by rfl) HS2 ?_))
          simp only [Act.put, List.getElem_toArray, List.getElem_cons_succ, List.getElem_cons_zero, List.setIfInBounds_toArray, List.set_cons_succ, List.set_cons_zero]
          ((refine wm_s2 (i := 23) (some 26) rfl rfl (by rfl) HS2 ?_))
          simp only [Act.put, List.getElem_toArray, List.getElem_cons_succ, List.getElem_cons_zero, List.setIfInBounds_toArray, List.set_cons_succ, List.set_cons_zero]
          ((refine wm_s2 (i := 24) (some 27) rfl rfl (by rfl) HS2 ?_))
          simp only [Act.put, List.getElem_toArray, List.getElem_cons_succ, List.getElem_cons_zero, List.setIfInBounds_toArray, List.set_cons_succ, List.set_cons_zero]
          ((refine wm_s2 (i := 25) (some 28) rfl rfl (by rfl) HS2 ?_))
          simp only [Act.put, List.getElem_toArray, List.getElem_cons_succ, List.getElem_cons_zero, List.setIfInBounds_toArray, List.set_cons_succ, List.set_cons_zero]
          ((refine wm_s2 (i := 26) (some 29) rfl rfl (by rfl) HS2 ?_))
          simp only [Act.put, List.getElem_toArray, List.getElem_cons_succ, List.getElem_cons_zero, List.setIfInBounds_toArray, List.set_cons_succ, List.set_cons_zero]
          ((refine wm_s2 (i := 27) (some 30) rfl rfl (by rfl) HS2 ?_))
          simp only [Act.put, List.getElem_toArray, List.getElem_cons_succ, List.getElem_cons_zero, List.setIfInBounds_toArray, List.set_cons_succ, List.set_cons_zero]
          ((refine wm_es0 (i := 28) (some 31) rfl rfl (by rfl) HS1 ?_; simp only [Act.put, List.getElem_toArray, List.getElem_cons_succ, List.getElem_cons_zero, List.setIfInBounds_toArray, List.set_cons_succ, List.set_cons_zero]))
          ((refine wm_s2 (i := 29) (some 32) rfl rfl (by rfl) HS2 ?_))
          simp only [Act.put, List.getElem_toArray, List.getElem_cons_succ, List.getElem_cons_zero, List.setIfInBounds_toArray, List.set_cons_succ, List.set_cons_zero]
          refine wm_q2 (i := 30) (some 33) rfl rfl rfl HS2 (fun W HS => by (go_simp; try with_reducible rfl)) ?_
          simp only [Act.put, List.getElem_toArray, List.getElem_cons_succ, List.getElem_cons_zero, List.setIfInBounds_toArray, List.set_cons_succ, List.set_cons_zero]
          refine wm_q2 (i := 31) (some 2) rfl rfl rfl HS2 (fun W HS => by (go_simp; try with_reducible rfl)) ?_
          simp only [Act.put, List.getElem_toArray, List.getElem_cons_succ, List.getElem_cons_zero, List.setIfInBounds_toArray, List.set_cons_succ, List.set_cons_zero]
          refine wm_nilN ?_
          clear HS1 HS2
          go_wp2_with (fail)
          refine ret1 rfl (res_tmp rfl) rfl ?_
          exact ⟨rfl, HM.base⟩
end
section
set_option linter.unusedVariables false
set_option linter.unusedSimpArgs false
set_option maxRecDepth 8000
open Go.RowKit
def lastK (l : List Key) : Key := l.getD (l.length - 1) zeroKey
theorem lastK_at (l : List Key) (h : 1 ≤ l.length) : l[l.length - 1]? = some (lastK l) := by
  rw [lastK, List.getD_eq_getElem?_getD, List.getElem?_eq_getElem (by omega)]; rfl
def climbL (leaf : Key) (n i : Nat) (p : List Key) : Key :=
  if h : n ≤ 1 then digLeaf leaf
  else if i < splitN n then digNode (climbL leaf (splitN n) i (p.take (p.length - 1))) (lastK p)
  else digNode (lastK p) (climbL leaf (n - splitN n) (i - splitN n) (p.take (p.length - 1)))
termination_by n
decreasing_by
  · have := splitN_lt n (by omega); omega
  · have := splitN_lt n (by omega); omega
theorem climbL_one (leaf : Key) (n i : Nat) (p : List Key) (h : n ≤ 1) : climbL leaf n i p = digLeaf leaf := by rw [climbL, dif_pos h]
theorem climbL_lo (leaf : Key) (n i : Nat) (p : List Key) (h : 2 ≤ n) (hi : i < splitN n) : climbL leaf n i p = digNode (climbL leaf (splitN n) i (p.take (p.length - 1))) (lastK p) := by rw [climbL, dif_neg (by omega), if_pos hi]
theorem climbL_hi (leaf : Key) (n i : Nat) (p : List Key) (h : 2 ≤ n) (hi : ¬ i < splitN n) : climbL leaf n i p = digNode (lastK p) (climbL leaf (n - splitN n) (i - splitN n) (p.take (p.length - 1))) := by rw [climbL, dif_neg (by omega), if_neg hi]
def climbT (leaf : Key) (n i : Nat) (p : List Key) : List (List UInt8) :=
  if h : n ≤ 1 then [textLeaf leaf]
  else if i < splitN n then climbT leaf (splitN n) i (p.take (p.length - 1)) ++ [textNode (climbL leaf (splitN n) i (p.take (p.length - 1))) (lastK p)]
  else climbT leaf (n - splitN n) (i - splitN n) (p.take (p.length - 1)) ++ [textNode (lastK p) (climbL leaf (n - splitN n) (i - splitN n) (p.take (p.length - 1)))]
termination_by n
decreasing_by
  · have := splitN_lt n (by omega); omega
  · have := splitN_lt n (by omega); omega
theorem climbT_one (leaf : Key) (n i : Nat) (p : List Key) (h : n ≤ 1) : climbT leaf n i p = [textLeaf leaf] := by rw [climbT, dif_pos h]
theorem climbT_lo (leaf : Key) (n i : Nat) (p : List Key) (h : 2 ≤ n) (hi : i < splitN n) : climbT leaf n i p = climbT leaf (splitN n) i (p.take (p.length - 1)) ++ [textNode (climbL leaf (splitN n) i (p.take (p.length - 1))) (lastK p)] := by rw [climbT, dif_neg (by omega), if_pos hi]
theorem climbT_hi (leaf : Key) (n i : Nat) (p : List Key) (h : 2 ≤ n) (hi : ¬ i < splitN n) : climbT leaf n i p = climbT leaf (n - splitN n) (i - splitN n) (p.take (p.length - 1)) ++ [textNode (lastK p) (climbL leaf (n - splitN n) (i - splitN n) (p.take (p.length - 1)))] := by rw [climbT, dif_neg (by omega), if_neg hi]
theorem climbT_len : ∀ (n : Nat) (leaf : Key) (i : Nat) (p : List Key), (climbT leaf n i p).length ≤ n + 1 := by
  intro n
  induction n using Nat.strongRecOn with
  | ind n ih =>
    intro leaf i p
    by_cases h : n ≤ 1
    · rw [climbT_one leaf n i p h]; simp
    · have hs := splitN_lt n (by omega)
      by_cases hi : i < splitN n
      · rw [climbT_lo leaf n i p (by omega) hi]; have := ih (splitN n) (by omega) leaf i (p.take (p.length - 1)); simp; omega
      · rw [climbT_hi leaf n i p (by omega) hi]; have := ih (n - splitN n) (by omega) leaf (i - splitN n) (p.take (p.length - 1)); simp; omega
theorem Mem.rot2 {w0 W : World} {c d x y : It} {L : List It} (h : Mem w0 W (c :: d :: x :: y :: L)) : Mem w0 W (x :: y :: c :: d :: L) :=
  h.perm (List.perm_append_comm_assoc [c, d] [x, y] L)
theorem Mem.sink22 {w0 W : World} {x y : It} {A B : List It} {z z' : It} (h : Mem w0 W (x :: y :: (A ++ z :: z' :: B))) : Mem w0 W (x :: y :: z :: z' :: (A ++ B)) :=
  h.perm (List.Perm.cons x (List.Perm.cons y (List.perm_append_comm_assoc A [z, z'] B)))
section
attribute [local irreducible] rowT
set_option maxHeartbeats 3200000 in
theorem climb_c (w0 : World) (b : Nat) (leaf : Key) : ∀ (n i : Nat) (p : List Key) (v : Value) (W : World) (u : Value) (us : List (Value × List UInt8)) (L : List It), 1 ≤ n → n ≤ 128 → i < n → p.length = stepsN n i → us.length + 2 * n ≤ 1000000 → RdL encK 16 w0 v p →
    Mem w0 W (.blk b #[u] 119 :: .row u 24 1 us.length (valsT us) :: L) →
    Calls Try.prog 134 #[.pointer (some ⟨b, 0, none⟩), .agg (kc leaf), .int .i64 (n : Int), .int .i64 (i : Int), v] W fun e W' =>
      ∃ u' vs R, e = .returned (.agg (kc (climbL leaf n i p))) ∧ TxIs vs (climbT leaf n i p) ∧ Tx vs R ∧ Mem w0 W' (.blk b #[u'] 119 :: .row u' 24 1 (us ++ vs).length (valsT (us ++ vs)) :: (R ++ L)) := by
  intro n
  induction n using Nat.strongRecOn with
  | ind n ih =>
    intro i p v W u us L h1 hn hi hpl hus hR HM
    by_cases hone : n = 1
    · have hb : (n : Int) = 1 := by omega
      clear ih hpl
      rw [climbL_one leaf n i p (by omega), climbT_one leaf n i p (by omega)]
      go_enter Try.func134, Try.ntmps134
      go_wp2_with (first
        | ((with_reducible refine s_ 6 ?_); go_must (refine wl_box (dst := some 6) (cs := kc leaf) _ _ _ rfl rfl HM ?_; clear HM; intro b6 W HM))
        | ((with_reducible refine s_ 10 ?_); go_must (refine wl_alloc (dst := some 10) (cs := kc zeroKey) 23 _ Try.zeroValue23 kc_zero HM ?_; clear HM; intro b10 W HM))
        | ((with_reducible refine ld_ 23 ?_); go_must (refine wl_load_blk _ _ _ _ _ _ rfl HM (by repeat first | exact List.mem_cons_self .. | refine List.mem_cons_of_mem _ ?_) Try.underlying23 rfl (by rw [kc_size]; exact sz23) ?_))
        | ((with_reducible refine st_ 23 ?_); go_must ((refine wl_store_blk _ _ _ _ _ _ _ rfl rfl HM (.there (.there (.there .here))) (by rw [kc_size]; exact sz23) (by simp only [kc_size]) (kc_one _) ?_); clear HM; intro W HM))
        | (go_at_call 66; go_must (((with_reducible refine (leafTextT _ _).mono ?_)); rintro e W ⟨q, rfl, HM'⟩; replace HM := HM.join HM'; clear HM'; simp only [List.cons_append, List.nil_append] at HM))
        | (go_at_call 65; go_must (((with_reducible refine (take_c w0 _ b u q us (textLeaf leaf) _ HM.fetch2 m0 (by rw [textLeaf_len]; decide) (by omega)).mono ?_)); rintro e W ⟨u', rfl, HM'⟩; clear HM; rename _ => HM)))
      refine ret1 rfl (by (exact res_row HM rfl m3 Try.underlying23 rfl (by rw [kc_size]; exact sz23))) rfl ?_
      exact ⟨u', [(q, textLeaf leaf)], [rowT (q, textLeaf leaf)], rfl, TxIs.one _ _, Tx.one m0, HM.drop5⟩
    · have hb : ¬ (n : Int) = 1 := by omega
      have hs := splitN_lt n (by omega)
      have hpn : 1 ≤ p.length := by
        rw [hpl]
        by_cases hlo : i < splitN n
        · rw [stepsN_lo n i (by omega) hlo]; omega
        · rw [stepsN_hi n i (by omega) hlo]; omega
      have hple : p.length ≤ 128 := by rw [hpl]; have := stepsN_le n i; omega
      have hw0 : IntKind.i64.wrap ((p.length : Int) - 1) = (p.length : Int) - 1 := by rw [IntKind.wrap_i64]; omega
      have ht : ((p.length : Int) - 1).toNat = p.length - 1 := by omega
      have hj1 : (0 : Int) ≤ (p.length : Int) - 1 := by omega
      have hj2 : (p.length : Int) - 1 ≤ (p.length : Int) := by omega
      have hj3 : (1 : Int) ≤ (p.length : Int) := by omega
      have hx : p[((p.length : Int) - 1).toNat]? = some (lastK p) := by rw [ht]; exact lastK_at p hpn
      by_cases hlo : i < splitN n
      · have hb2 : (i : Int) < ((splitN n : Nat) : Int) := by omega
        have hpl2 : (p.take ((p.length : Int) - 1).toNat).length = stepsN (splitN n) i := by
          rw [List.length_take, ht, hpl, stepsN_lo n i (by omega) hlo]; omega
        clear hpl
        rw [climbL_lo leaf n i p (by omega) hlo, climbT_lo leaf n i p (by omega) hlo]
        go_enter Try.func134, Try.ntmps134
        go_wp2_with (first
          | ((with_reducible refine s_ 6 ?_); go_must (refine wl_box (dst := some 6) (cs := kc leaf) _ _ _ rfl rfl HM ?_; clear HM; intro b6 W HM))
          | ((with_reducible refine s_ 10 ?_); go_must (refine wl_alloc (dst := some 10) (cs := kc zeroKey) 23 _ Try.zeroValue23 kc_zero HM ?_; clear HM; intro b10 W HM))
          | ((with_reducible refine s_ 22 ?_); go_must ((refine wl_len (dst := some 22) _ _ _ _ 23 Try.underlying40 rfl (hR.mem HM) ?_)))
          | (go_at_call 72; go_must (((with_reducible refine (split_c _ (by omega) (by omega) _).mono ?_)); rintro e W ⟨rfl, HM'⟩; replace HM := HM.keep HM'.below; clear HM')))
        replace HM := HM.drew
        refine wp_region_mixN (fun W => Held w0 W [.blk b6 (kc leaf) 23]) (fun W => Held w0 W [.blk b6 (kc leaf) 23]) (.cons (2, 0) (.cons (2, 1) (.cons (2, 2) (.cons (2, 3) (.cons (2, 4) (.cons (2, 5) (.cons (2, 6) (.cons (2, 7) (.cons (2, 9) (.cons (2, 10) (.cons (2, 11) (.cons (2, 12) (.cons (0, 8) (.cons (0, 13) (.cons (0, 14) (.cons (0, 15) .nil)))))))))))))))) [] (by kernel_rfl) (by kernel_rfl) (by kernel_rfl) (fun W h => Held.weak h (by simp)) (HM.held (by simp)) ?_
        revert HM; generalize World.drew _ = W; intro HM
        have HS1 : Held w0 W [.blk b6 (kc leaf) 23] := HM.held (by simp)
        have HS2 : Held w0 W [.blk b6 (kc leaf) 23] := HM.held (by simp)
        refine wm_q2 (i := 0) (some 27) rfl rfl rfl HS2 (fun W HS => by (go_simp; try with_reducible rfl)) ?_
        simp only [Act.put, List.getElem_toArray, List.getElem_cons_succ, List.getElem_cons_zero, List.setIfInBounds_toArray, List.set_cons_succ, List.set_cons_zero]
        refine wm_q2 (i := 1) (some 28) rfl rfl rfl HS2 (fun W HS => by (go_simp; try with_reducible rfl)) ?_
        simp only [Act.put, List.getElem_toArray, List.getElem_cons_succ, List.getElem_cons_zero, List.setIfInBounds_toArray, List.set_cons_succ, List.set_cons_zero]
        refine wm_q2 (i := 2) (some 29) rfl rfl rfl HS2 (fun W HS => (by ((refine ry_load_blk _ _ _ _ _ _ HS ?_ m0 Try.underlying23 rfl (by rw [kc_size]; exact sz23); rfl)))) ?_
        simp only [Act.put, List.getElem_toArray, List.getElem_cons_succ, List.getElem_cons_zero, List.setIfInBounds_toArray, List.set_cons_succ, List.set_cons_zero]
        refine wm_q2 (i := 3) (some 30) rfl rfl rfl HS2 (fun W HS => by (go_simp; try with_reducible rfl)) ?_
        simp only [Act.put, List.getElem_toArray, List.getElem_cons_succ, List.getElem_cons_zero, List.setIfInBounds_toArray, List.set_cons_succ, List.set_cons_zero]
        refine wm_q2 (i := 4) (some 31) rfl rfl rfl HS2 (fun W HS => by (go_simp; try with_reducible rfl)) ?_
        simp only [Act.put, List.getElem_toArray, List.getElem_cons_succ, List.getElem_cons_zero, List.setIfInBounds_toArray, List.set_cons_succ, List.set_cons_zero]
        refine wm_q2 (i := 5) (some 32) rfl rfl rfl HS2 (fun W HS => by (go_simp; try with_reducible rfl)) ?_
        simp only [Act.put, List.getElem_toArray, List.getElem_cons_succ, List.getElem_cons_zero, List.setIfInBounds_toArray, List.set_cons_succ, List.set_cons_zero]
        refine wm_q2 (i := 6) (some 33) rfl rfl rfl HS2 (fun W HS => by (go_simp; try with_reducible rfl)) ?_
        simp only [Act.put, List.getElem_toArray, List.getElem_cons_succ, List.getElem_cons_zero, List.setIfInBounds_toArray, List.set_cons_succ, List.set_cons_zero]
        (refine wm_q2x (i := 7) (some 34) rfl rfl rfl HS2 (ry_slice_hi _ 23 _ _ _ _ _ _ encK_len Try.underlying40 sz23 (hR.mem HM) rfl rfl (by omega) (by omega)) ?_); intro v34 hv34
        simp only [Act.put, List.getElem_toArray, List.getElem_cons_succ, List.getElem_cons_zero, List.setIfInBounds_toArray, List.set_cons_succ, List.set_cons_zero]
        refine wm_q2 (i := 9) (some 36) rfl rfl rfl HS2 (fun W HS => by (go_simp; try with_reducible rfl)) ?_
        simp only [Act.put, List.getElem_toArray, List.getElem_cons_succ, List.getElem_cons_zero, List.setIfInBounds_toArray, List.set_cons_succ, List.set_cons_zero]
        refine wm_q2 (i := 10) (some 37) rfl rfl rfl HS2 (fun W HS => by (go_simp; try with_reducible rfl)) ?_
        simp only [Act.put, List.getElem_toArray, List.getElem_cons_succ, List.getElem_cons_zero, List.setIfInBounds_toArray, List.set_cons_succ, List.set_cons_zero]
        (refine wm_q2x (i := 11) (some 38) rfl rfl rfl HS2 (ry_index _ 23 _ _ _ _ _ _ _ (fun W => Held w0 W [.blk b6 (kc leaf) 23]) W encK_len Try.underlying40 sz23 HS2 (fun W HS => hR.held HS) rfl rfl (by omega) (by first | assumption | simp [*])) ?_); intro p38 hp38
        simp only [Act.put, List.getElem_toArray, List.getElem_cons_succ, List.getElem_cons_zero, List.setIfInBounds_toArray, List.set_cons_succ, List.set_cons_zero]
        refine wm_q2 (i := 12) (some 39) rfl rfl rfl HS2 (fun W HS => (by refine ry_load_key _ _ _ _ ?_ (hp38 W HS) Try.underlying23 sz23; rfl)) ?_
        simp only [Act.put, List.getElem_toArray, List.getElem_cons_succ, List.getElem_cons_zero, List.setIfInBounds_toArray, List.set_cons_succ, List.set_cons_zero]
        refine wm_e0 (i := 8) rfl ?_
        go_wp2_with (first
          | (go_at_call 134; go_must (((with_reducible refine (ih (splitN n) (by omega) i _ _ _ u us _ (by omega) (by omega) (by omega) hpl2 (by omega) (hv34 _ hR) HM.rot2).mono ?_)); rintro e W ⟨u1, vs1, R1, rfl, hT1, hX1, HM'⟩; clear HM; have HM := HM'.sink22; clear HM'; have hz1 := hT1.len; have hz2 := climbT_len (splitN n) leaf i (p.take ((p.length : Int) - 1).toNat))))
        refine ⟨HM.held (by simp), ?_⟩
        clear HS1 HS2
        have HS1 : Held w0 W [.blk b6 (kc leaf) 23] := HM.held (by simp)
        have HS2 : Held w0 W [.blk b6 (kc leaf) 23] := HM.held (by simp)
        refine wm_e0 (i := 13) rfl ?_
        go_wp2_with (first
          | (go_at_call 68; go_must (((with_reducible refine (nodeTextT _ _ _).mono ?_)); rintro e W ⟨q, rfl, HM'⟩; replace HM := HM.join HM'; clear HM'; simp only [List.cons_append, List.nil_append] at HM)))
        refine ⟨HM.held (by simp), ?_⟩
        clear HS1 HS2
        have HS1 : Held w0 W [.blk b6 (kc leaf) 23] := HM.held (by simp)
        have HS2 : Held w0 W [.blk b6 (kc leaf) 23] := HM.held (by simp)
        refine wm_e0 (i := 14) rfl ?_
        go_wp2_with (first
          | (go_at_call 65; go_must (((with_reducible refine (take_c w0 _ b u1 q (us ++ vs1) _ _ HM.rot1 m0 (by rw [textNode_len]; decide) (by rw [List.length_append]; omega)).mono ?_)); rintro e W ⟨u2, rfl, HM'⟩; clear HM; rename _ => HM)))
        refine ⟨HM.held (by simp), ?_⟩
        clear HS1 HS2
        have HS1 : Held w0 W [.blk b6 (kc leaf) 23] := HM.held (by simp)
        have HS2 : Held w0 W [.blk b6 (kc leaf) 23] := HM.held (by simp)
        refine wm_e0 (i := 15) rfl ?_
        go_wp2_with (first
          | ((with_reducible refine st_ 23 ?_); go_must ((refine wl_store_blk _ _ _ _ _ _ _ rfl rfl HM (.there (.there (.there .here))) (by rw [kc_size]; exact sz23) (by simp only [kc_size]) (kc_one _) ?_); clear HM; intro W HM)))
        refine ⟨HM.held (by simp), ?_⟩
        clear HS1 HS2
        have HS1 : Held w0 W [.blk b6 (kc leaf) 23] := HM.held (by simp)
        have HS2 : Held w0 W [.blk b6 (kc leaf) 23] := HM.held (by simp)
        refine wm_nilN ?_
        clear HS1 HS2
        go_wp2_with (fail)
        refine ret1 rfl (by (exact res_row HM rfl m3 Try.underlying23 rfl (by rw [kc_size]; exact sz23))) rfl ?_
        have H := HM.drop5
        rw [List.append_assoc us] at H
        rw [ht] at hT1
        exact ⟨u2, _, _, rfl, hT1.app (TxIs.one q _), (Tx.inr [rowT _] hX1).app (Tx.one m0), H⟩
      · have hb2 : ¬ (i : Int) < ((splitN n : Nat) : Int) := by omega
        have hw1 : IntKind.i64.wrap ((n : Int) - ((splitN n : Nat) : Int)) = ((n - splitN n : Nat) : Int) := by rw [IntKind.wrap_i64]; omega
        have hw2 : IntKind.i64.wrap ((i : Int) - ((splitN n : Nat) : Int)) = ((i - splitN n : Nat) : Int) := by rw [IntKind.wrap_i64]; omega
        have hpl2 : (p.take ((p.length : Int) - 1).toNat).length = stepsN (n - splitN n) (i - splitN n) := by
          rw [List.length_take, ht, hpl, stepsN_hi n i (by omega) hlo]; omega
        clear hpl
        rw [climbL_hi leaf n i p (by omega) hlo, climbT_hi leaf n i p (by omega) hlo]
        go_enter Try.func134, Try.ntmps134
        go_wp2_with (first
          | ((with_reducible refine s_ 6 ?_); go_must (refine wl_box (dst := some 6) (cs := kc leaf) _ _ _ rfl rfl HM ?_; clear HM; intro b6 W HM))
          | ((with_reducible refine s_ 10 ?_); go_must (refine wl_alloc (dst := some 10) (cs := kc zeroKey) 23 _ Try.zeroValue23 kc_zero HM ?_; clear HM; intro b10 W HM))
          | ((with_reducible refine s_ 22 ?_); go_must ((refine wl_len (dst := some 22) _ _ _ _ 23 Try.underlying40 rfl (hR.mem HM) ?_)))
          | (go_at_call 72; go_must (((with_reducible refine (split_c _ (by omega) (by omega) _).mono ?_)); rintro e W ⟨rfl, HM'⟩; replace HM := HM.keep HM'.below; clear HM')))
        replace HM := HM.drew
        refine wp_region_mixN (fun W => Held w0 W [.blk b6 (kc leaf) 23]) (fun W => Held w0 W [.blk b6 (kc leaf) 23]) (.cons (2, 0) (.cons (2, 1) (.cons (2, 2) (.cons (2, 3) (.cons (2, 4) (.cons (2, 5) (.cons (2, 6) (.cons (2, 7) (.cons (2, 8) (.cons (2, 9) (.cons (2, 10) (.cons (2, 11) (.cons (2, 12) (.cons (2, 13) (.cons (2, 14) (.cons (2, 15) (.cons (0, 16) (.cons (0, 17) (.cons (0, 18) (.cons (0, 19) .nil)))))))))))))))))))) [] (by kernel_rfl) (by kernel_rfl) (by kernel_rfl) (fun W h => Held.weak h (by simp)) (HM.held (by simp)) ?_
        revert HM; generalize World.drew _ = W; intro HM
        have HS1 : Held w0 W [.blk b6 (kc leaf) 23] := HM.held (by simp)
        have HS2 : Held w0 W [.blk b6 (kc leaf) 23] := HM.held (by simp)
        refine wm_q2 (i := 0) (some 42) rfl rfl rfl HS2 (fun W HS => by (go_simp; try with_reducible rfl)) ?_
        simp only [Act.put, List.getElem_toArray, List.getElem_cons_succ, List.getElem_cons_zero, List.setIfInBounds_toArray, List.set_cons_succ, List.set_cons_zero]
        refine wm_q2 (i := 1) (some 43) rfl rfl rfl HS2 (fun W HS => by (go_simp; try with_reducible rfl)) ?_
        simp only [Act.put, List.getElem_toArray, List.getElem_cons_succ, List.getElem_cons_zero, List.setIfInBounds_toArray, List.set_cons_succ, List.set_cons_zero]
        refine wm_q2 (i := 2) (some 44) rfl rfl rfl HS2 (fun W HS => by (go_simp; try with_reducible rfl)) ?_
        simp only [Act.put, List.getElem_toArray, List.getElem_cons_succ, List.getElem_cons_zero, List.setIfInBounds_toArray, List.set_cons_succ, List.set_cons_zero]
        (refine wm_q2x (i := 3) (some 45) rfl rfl rfl HS2 (ry_index _ 23 _ _ _ _ _ _ _ (fun W => Held w0 W [.blk b6 (kc leaf) 23]) W encK_len Try.underlying40 sz23 HS2 (fun W HS => hR.held HS) rfl rfl (by omega) (by first | assumption | simp [*])) ?_); intro p45 hp45
        simp only [Act.put, List.getElem_toArray, List.getElem_cons_succ, List.getElem_cons_zero, List.setIfInBounds_toArray, List.set_cons_succ, List.set_cons_zero]
        refine wm_q2 (i := 4) (some 46) rfl rfl rfl HS2 (fun W HS => (by refine ry_load_key _ _ _ _ ?_ (hp45 W HS) Try.underlying23 sz23; rfl)) ?_
        simp only [Act.put, List.getElem_toArray, List.getElem_cons_succ, List.getElem_cons_zero, List.setIfInBounds_toArray, List.set_cons_succ, List.set_cons_zero]
        refine wm_q2 (i := 5) (some 47) rfl rfl rfl HS2 (fun W HS => by (go_simp; try with_reducible rfl)) ?_
        simp only [Act.put, List.getElem_toArray, List.getElem_cons_succ, List.getElem_cons_zero, List.setIfInBounds_toArray, List.set_cons_succ, List.set_cons_zero]
        refine wm_q2 (i := 6) (some 48) rfl rfl rfl HS2 (fun W HS => (by ((refine ry_load_blk _ _ _ _ _ _ HS ?_ m0 Try.underlying23 rfl (by rw [kc_size]; exact sz23); rfl)))) ?_
        simp only [Act.put, List.getElem_toArray, List.getElem_cons_succ, List.getElem_cons_zero, List.setIfInBounds_toArray, List.set_cons_succ, List.set_cons_zero]
        refine wm_q2 (i := 7) (some 49) rfl rfl rfl HS2 (fun W HS => by (go_simp; try with_reducible rfl)) ?_
        simp only [Act.put, List.getElem_toArray, List.getElem_cons_succ, List.getElem_cons_zero, List.setIfInBounds_toArray, List.set_cons_succ, List.set_cons_zero]
        refine wm_q2 (i := 8) (some 50) rfl rfl rfl HS2 (fun W HS => by (go_simp; try with_reducible rfl)) ?_
        simp only [Act.put, List.getElem_toArray, List.getElem_cons_succ, List.getElem_cons_zero, List.setIfInBounds_toArray, List.set_cons_succ, List.set_cons_zero]
        refine wm_q2 (i := 9) (some 51) rfl rfl rfl HS2 (fun W HS => by (go_simp; try with_reducible rfl)) ?_
        simp only [Act.put, List.getElem_toArray, List.getElem_cons_succ, List.getElem_cons_zero, List.setIfInBounds_toArray, List.set_cons_succ, List.set_cons_zero]
        refine wm_q2 (i := 10) (some 52) rfl rfl rfl HS2 (fun W HS => by (go_simp; try with_reducible rfl)) ?_
        simp only [Act.put, List.getElem_toArray, List.getElem_cons_succ, List.getElem_cons_zero, List.setIfInBounds_toArray, List.set_cons_succ, List.set_cons_zero]
        refine wm_q2 (i := 11) (some 53) rfl rfl rfl HS2 (fun W HS => by (go_simp; try with_reducible rfl)) ?_
        simp only [Act.put, List.getElem_toArray, List.getElem_cons_succ, List.getElem_cons_zero, List.setIfInBounds_toArray, List.set_cons_succ, List.set_cons_zero]
        refine wm_q2 (i := 12) (some 54) rfl rfl rfl HS2 (fun W HS => by (go_simp; try with_reducible rfl)) ?_
        simp only [Act.put, List.getElem_toArray, List.getElem_cons_succ, List.getElem_cons_zero, List.setIfInBounds_toArray, List.set_cons_succ, List.set_cons_zero]
        refine wm_q2 (i := 13) (some 55) rfl rfl rfl HS2 (fun W HS => by (go_simp; try with_reducible rfl)) ?_
        simp only [Act.put, List.getElem_toArray, List.getElem_cons_succ, List.getElem_cons_zero, List.setIfInBounds_toArray, List.set_cons_succ, List.set_cons_zero]
        refine wm_q2 (i := 14) (some 56) rfl rfl rfl HS2 (fun W HS => by (go_simp; try with_reducible rfl)) ?_
        simp only [Act.put, List.getElem_toArray, List.getElem_cons_succ, List.getElem_cons_zero, List.setIfInBounds_toArray, List.set_cons_succ, List.set_cons_zero]
        (refine wm_q2x (i := 15) (some 57) rfl rfl rfl HS2 (ry_slice_hi _ 23 _ _ _ _ _ _ encK_len Try.underlying40 sz23 (hR.mem HM) rfl rfl (by omega) (by omega)) ?_); intro v57 hv57
        simp only [Act.put, List.getElem_toArray, List.getElem_cons_succ, List.getElem_cons_zero, List.setIfInBounds_toArray, List.set_cons_succ, List.set_cons_zero]
        refine wm_e0 (i := 16) rfl ?_
        go_wp2_with (first
          | (go_at_call 134; go_must (((with_reducible refine (ih (n - splitN n) (by omega) (i - splitN n) _ _ _ u us _ (by omega) (by omega) (by omega) hpl2 (by omega) (hv57 _ hR) HM.rot2).mono ?_)); rintro e W ⟨u1, vs1, R1, rfl, hT1, hX1, HM'⟩; clear HM; have HM := HM'.sink22; clear HM'; have hz1 := hT1.len; have hz2 := climbT_len (n - splitN n) leaf (i - splitN n) (p.take ((p.length : Int) - 1).toNat))))
        refine ⟨HM.held (by simp), ?_⟩
        clear HS1 HS2
        have HS1 : Held w0 W [.blk b6 (kc leaf) 23] := HM.held (by simp)
        have HS2 : Held w0 W [.blk b6 (kc leaf) 23] := HM.held (by simp)
        refine wm_e0 (i := 17) rfl ?_
        go_wp2_with (first
          | (go_at_call 68; go_must (((with_reducible refine (nodeTextT _ _ _).mono ?_)); rintro e W ⟨q, rfl, HM'⟩; replace HM := HM.join HM'; clear HM'; simp only [List.cons_append, List.nil_append] at HM)))
        refine ⟨HM.held (by simp), ?_⟩
        clear HS1 HS2
        have HS1 : Held w0 W [.blk b6 (kc leaf) 23] := HM.held (by simp)
        have HS2 : Held w0 W [.blk b6 (kc leaf) 23] := HM.held (by simp)
        refine wm_e0 (i := 18) rfl ?_
        go_wp2_with (first
          | (go_at_call 65; go_must (((with_reducible refine (take_c w0 _ b u1 q (us ++ vs1) _ _ HM.rot1 m0 (by rw [textNode_len]; decide) (by rw [List.length_append]; omega)).mono ?_)); rintro e W ⟨u2, rfl, HM'⟩; clear HM; rename _ => HM)))
        refine ⟨HM.held (by simp), ?_⟩
        clear HS1 HS2
        have HS1 : Held w0 W [.blk b6 (kc leaf) 23] := HM.held (by simp)
        have HS2 : Held w0 W [.blk b6 (kc leaf) 23] := HM.held (by simp)
        refine wm_e0 (i := 19) rfl ?_
        go_wp2_with (first
          | ((with_reducible refine st_ 23 ?_); go_must ((refine wl_store_blk _ _ _ _ _ _ _ rfl rfl HM (.there (.there (.there .here))) (by rw [kc_size]; exact sz23) (by simp only [kc_size]) (kc_one _) ?_); clear HM; intro W HM)))
        refine ⟨HM.held (by simp), ?_⟩
        clear HS1 HS2
        have HS1 : Held w0 W [.blk b6 (kc leaf) 23] := HM.held (by simp)
        have HS2 : Held w0 W [.blk b6 (kc leaf) 23] := HM.held (by simp)
        refine wm_nilN ?_
        clear HS1 HS2
        go_wp2_with (fail)
        refine ret1 rfl (by (exact res_row HM rfl m3 Try.underlying23 rfl (by rw [kc_size]; exact sz23))) rfl ?_
        have H := HM.drop5
        rw [List.append_assoc us] at H
        rw [ht] at hT1
        exact ⟨u2, _, _, rfl, hT1.app (TxIs.one q _), (Tx.inr [rowT _] hX1).app (Tx.one m0), H⟩
end
end
section
set_option linter.unusedVariables false
set_option linter.unusedSimpArgs false
set_option maxRecDepth 8000
open Go.RowKit
theorem Mem.bk {w0 W : World} {x : It} {A B : List It} (h : Mem w0 W (x :: (A ++ B))) : Mem w0 W (B ++ (x :: A)) := h.perm (List.perm_append_comm (l₁ := x :: A) (l₂ := B))
section
attribute [local irreducible] rowT
attribute [local go_sem] keyEqI
set_option maxHeartbeats 800000 in
theorem given_c (leaf : Key) (n i : Nat) (v : Value) (p : List Key) (w : World) (hR : RdL encK 16 w v p) (h1 : 1 ≤ n) (hn : n ≤ 128) (hi : i < n) (hpl : p.length = stepsN n i) :
    Calls Try.prog 79 #[.agg (kc leaf), .agg #[.int .i64 (n : Int), .int .i64 (i : Int), v]] w fun e w' => ∃ u, e = .returned (.tuple #[.agg (kc (climbL leaf n i p)), u]) ∧ Given w w' u (climbT leaf n i p) := by
  have HM := Mem.start w
  go_enter Try.func79, Try.ntmps79
  go_wp2_with (first
    | ((with_reducible refine s_ 2 ?_); go_must (refine wl_box (dst := some 2) (cs := kc leaf) _ _ _ rfl rfl HM ?_; clear HM; intro b2 W HM))
    | ((with_reducible refine s_ 3 ?_); go_must (refine wl_box (dst := some 3) (cs := #[.int .i64 (n : Int), .int .i64 (i : Int), v]) _ _ _ rfl rfl HM ?_; clear HM; intro b3 W HM))
    | ((with_reducible refine s_ 4 ?_); go_must (refine wl_alloc (dst := some 4) (cs := kc zeroKey) 23 _ Try.zeroValue23 kc_zero HM ?_; clear HM; intro b4 W HM))
    | ((with_reducible refine s_ 6 ?_); go_must (refine wl_alloc (dst := some 6) (cs := #[Value.slice none 0 0]) 119 _ Try.zeroValue119 rfl HM ?_; clear HM; intro b6 W HM))
    | ((with_reducible refine s_ 7 ?_); go_must (refine wl_alloc (dst := some 7) (cs := kc zeroKey) 23 _ Try.zeroValue23 kc_zero HM ?_; clear HM; intro b7 W HM))
    | ((with_reducible refine ld_ 23 ?_); go_must (refine wl_load_blk _ _ _ _ _ _ rfl HM (by repeat first | exact List.mem_cons_self .. | refine List.mem_cons_of_mem _ ?_) Try.underlying23 rfl (by rw [kc_size]; exact sz23) ?_))
    | ((with_reducible refine ld_ 3 ?_); go_must (refine wl_load_cell _ _ _ _ _ _ _ _ rfl HM (by repeat first | exact List.mem_cons_self .. | refine List.mem_cons_of_mem _ ?_) (by rfl) Try.underlying3 rfl ?_))
    | ((with_reducible refine ld_ 40 ?_); go_must (refine wl_load_cell _ _ _ _ _ _ _ _ rfl HM (by repeat first | exact List.mem_cons_self .. | refine List.mem_cons_of_mem _ ?_) (by rfl) Try.underlying40 rfl ?_))
    | ((with_reducible refine st_ 23 ?_); go_must ((refine wl_store_blk _ _ _ _ _ _ _ rfl rfl HM .here (by rw [kc_size]; exact sz23) (by simp only [kc_size]) (kc_one _) ?_); clear HM; intro W HM))
    | (go_at_call 134; go_must (((with_reducible refine (climb_c w b6 leaf n i p v _ _ [] _ h1 hn hi hpl (by simp; omega) hR HM.nilT).mono ?_)); rintro e W ⟨u1, vs1, R1, rfl, hT1, hX1, HM'⟩; clear HM; have HM := HM'.sink2; clear HM')))
  replace HM := HM.drew
  refine wp_region_mixN (fun W => Held w W [.blk b7 (kc (climbL leaf n i p)) 23, .blk b6 #[u1] 119]) (fun W => Held w W [.blk b7 (kc (climbL leaf n i p)) 23, .blk b6 #[u1] 119]) (.cons (2, 0) (.cons (2, 1) (.cons (0, 2) (.cons (2, 3) .nil)))) [] (by kernel_rfl) (by kernel_rfl) (by kernel_rfl) (fun W h => Held.weak h (by simp)) (HM.held (by simp)) ?_
  revert HM; generalize World.drew _ = W; intro HM
  have HS1 : Held w W [.blk b7 (kc (climbL leaf n i p)) 23, .blk b6 #[u1] 119] := HM.held (by simp)
  have HS2 : Held w W [.blk b7 (kc (climbL leaf n i p)) 23, .blk b6 #[u1] 119] := HM.held (by simp)
  refine wm_q2 (i := 0) (some 16) rfl rfl rfl HS2 (fun W HS => (by ((refine ry_load_blk _ _ _ _ _ _ HS ?_ m0 Try.underlying23 rfl (by rw [kc_size]; exact sz23); rfl)))) ?_
  simp only [Act.put, List.getElem_toArray, List.getElem_cons_succ, List.getElem_cons_zero, List.setIfInBounds_toArray, List.set_cons_succ, List.set_cons_zero]
  refine wm_q2 (i := 1) (some 17) rfl rfl rfl HS2 (fun W HS => (by (exact ry_load_cell _ _ _ _ _ _ _ _ HS rfl m1 rfl Try.underlying119 rfl))) ?_
  simp only [Act.put, List.getElem_toArray, List.getElem_cons_succ, List.getElem_cons_zero, List.setIfInBounds_toArray, List.set_cons_succ, List.set_cons_zero]
  refine wm_e0 (i := 2) rfl ?_
  go_wp2_with (first
    | ((with_reducible refine st_ 23 ?_); go_must ((refine wl_store_blk _ _ _ _ _ _ _ rfl rfl HM (.there (.there (.there .here))) (by rw [kc_size]; exact sz23) (by simp only [kc_size]) (kc_one _) ?_); clear HM; intro W HM)))
  refine ⟨HM.held (by simp), ?_⟩
  clear HS1 HS2
  have HS1 : Held w W [.blk b7 (kc (climbL leaf n i p)) 23, .blk b6 #[u1] 119] := HM.held (by simp)
  have HS2 : Held w W [.blk b7 (kc (climbL leaf n i p)) 23, .blk b6 #[u1] 119] := HM.held (by simp)
  refine wm_q2 (i := 3) (some 5) rfl rfl rfl HS2 (fun W HS => by (go_simp; try with_reducible rfl)) ?_
  simp only [Act.put, List.getElem_toArray, List.getElem_cons_succ, List.getElem_cons_zero, List.setIfInBounds_toArray, List.set_cons_succ, List.set_cons_zero]
  refine wm_nilN ?_
  clear HS1 HS2
  go_wp2_with (fail)
  refine ret2 rfl (by (exact res_row HM rfl m3 Try.underlying23 rfl (by rw [kc_size]; exact sz23))) (res_tmp rfl) rfl ?_
  exact ⟨u1, rfl, vs1, R1, hT1, hX1, HM.sub (.cons _ (.cons _ (.cons_cons _ (.cons _ (List.sublist_append_left _ _)))))⟩
set_option maxHeartbeats 3200000 in
theorem rgiven_c (leaf : Key) : ∀ (n i : Nat) (v : Value) (p : List Key) (w : World), RdL encK 16 w v p → 1 ≤ n → n ≤ 128 → i < n → p.length = stepsN n i →
    Calls Try.prog 80 #[.agg (kc leaf), .int .i64 (n : Int), .int .i64 (i : Int), v] w fun e w' => ∃ u, e = .returned (.tuple #[.agg (kc (climbL leaf n i p)), u]) ∧ Given w w' u (climbT leaf n i p) := by
  intro n
  induction n using Nat.strongRecOn with
  | ind n ih =>
    intro i v p w hR h1 hn hi hpl
    have HM := Mem.start w
    by_cases hone : n = 1
    · have hb : (n : Int) = 1 := by omega
      clear ih hpl
      rw [climbL_one leaf n i p (by omega), climbT_one leaf n i p (by omega)]
      go_enter Try.func80, Try.ntmps80
      go_wp2_with (first
        | ((with_reducible refine s_ 4 ?_); go_must (refine wl_box (dst := some 4) (cs := kc leaf) _ _ _ rfl rfl HM ?_; clear HM; intro b4 W HM))
        | ((with_reducible refine s_ 8 ?_); go_must (refine wl_alloc (dst := some 8) (cs := kc zeroKey) 23 _ Try.zeroValue23 kc_zero HM ?_; clear HM; intro b8 W HM))
        | ((with_reducible refine s_ 27 ?_); go_must ((refine wl_slice1V (dst := some 27) _ _ _ q Try.underlying45 Try.sizeOf24 Try.zeroValue24 (text_cells HM m0) rfl HM ?_; clear HM; intro b27 W HM; replace HM := HM.toRow 1 1 .here rfl (by simp [maxLen]))))
        | ((with_reducible refine ld_ 23 ?_); go_must (refine wl_load_blk _ _ _ _ _ _ rfl HM (by repeat first | exact List.mem_cons_self .. | refine List.mem_cons_of_mem _ ?_) Try.underlying23 rfl (by rw [kc_size]; exact sz23) ?_))
        | ((with_reducible refine st_ 23 ?_); go_must ((refine wl_store_blk _ _ _ _ _ _ _ rfl rfl HM (.there (.there .here)) (by rw [kc_size]; exact sz23) (by simp only [kc_size]) (kc_one _) ?_); clear HM; intro W HM))
        | (go_at_call 126; go_must (((with_reducible refine (rleafTextT _ _).mono ?_)); rintro e W ⟨q, rfl, HM'⟩; replace HM := HM.join HM'; clear HM'; simp only [List.cons_append, List.nil_append] at HM))
        | (go_at_call 125; go_must (((with_reducible refine (rdigest_c _ (textLeaf leaf) _ (rd_text HM m0) (by rw [textLeaf_len]; decide)).mono ?_)); rintro e W ⟨rfl, HM'⟩; replace HM := HM.keep HM'.below; clear HM')))
      refine ret2 rfl (by (exact res_row HM rfl m2 Try.underlying23 rfl (by rw [kc_size]; exact sz23))) (res_tmp rfl) rfl ?_
      exact ⟨_, rfl, [(q, _)], [rowT (q, _)], TxIs.one _ _, Tx.one m0, HM.sub (.cons_cons _ (.cons_cons _ (List.nil_sublist _)))⟩
    · have hb : ¬ (n : Int) = 1 := by omega
      have hs := splitN_lt n (by omega)
      have hpn : 1 ≤ p.length := by
        rw [hpl]
        by_cases hlo : i < splitN n
        · rw [stepsN_lo n i (by omega) hlo]; omega
        · rw [stepsN_hi n i (by omega) hlo]; omega
      have hple : p.length ≤ 128 := by rw [hpl]; have := stepsN_le n i; omega
      have hw0 : IntKind.i64.wrap ((p.length : Int) - 1) = (p.length : Int) - 1 := by rw [IntKind.wrap_i64]; omega
      have ht : ((p.length : Int) - 1).toNat = p.length - 1 := by omega
      have hj1 : (0 : Int) ≤ (p.length : Int) - 1 := by omega
      have hj2 : (p.length : Int) - 1 ≤ (p.length : Int) := by omega
      have hj3 : (1 : Int) ≤ (p.length : Int) := by omega
      have hx : p[((p.length : Int) - 1).toNat]? = some (lastK p) := by rw [ht]; exact lastK_at p hpn
      by_cases hlo : i < splitN n
      · have hb2 : (i : Int) < ((splitN n : Nat) : Int) := by omega
        have hpl2 : (p.take ((p.length : Int) - 1).toNat).length = stepsN (splitN n) i := by
          rw [List.length_take, ht, hpl, stepsN_lo n i (by omega) hlo]; omega
        clear hpl
        rw [climbL_lo leaf n i p (by omega) hlo, climbT_lo leaf n i p (by omega) hlo]
        have hz2 := climbT_len (splitN n) leaf i (p.take ((p.length : Int) - 1).toNat)
        go_enter Try.func80, Try.ntmps80
        go_wp2_with (first
          | ((with_reducible refine s_ 4 ?_); go_must (refine wl_box (dst := some 4) (cs := kc leaf) _ _ _ rfl rfl HM ?_; clear HM; intro b4 W HM))
          | ((with_reducible refine s_ 8 ?_); go_must (refine wl_alloc (dst := some 8) (cs := kc zeroKey) 23 _ Try.zeroValue23 kc_zero HM ?_; clear HM; intro b8 W HM))
          | (go_at_call 127; go_must (((with_reducible refine (rsplit_c _ (by omega) (by omega) _).mono ?_)); rintro e W ⟨rfl, HM'⟩; replace HM := HM.keep HM'.below; clear HM')))
        replace HM := HM.drew
        refine wp_region_mixN (fun W => Held w W []) (fun W => Held w W []) (.cons (2, 0) (.cons (2, 1) (.cons (2, 2) (.cons (2, 3) (.cons (2, 4) (.cons (2, 5) (.cons (2, 6) (.cons (2, 7) (.cons (2, 8) (.cons (2, 9) (.cons (2, 10) (.cons (0, 11) (.cons (2, 12) (.cons (0, 13) .nil)))))))))))))) [] (by kernel_rfl) (by kernel_rfl) (by kernel_rfl) (fun W h => Held.weak h (by simp)) (HM.held (by simp)) ?_
        revert HM; generalize World.drew _ = W; intro HM
        have HS1 : Held w W [] := HM.held (by simp)
        have HS2 : Held w W [] := HM.held (by simp)
        refine wm_q2 (i := 0) (some 30) rfl rfl rfl HS2 (fun W HS => by (go_simp; try with_reducible rfl)) ?_
        simp only [Act.put, List.getElem_toArray, List.getElem_cons_succ, List.getElem_cons_zero, List.setIfInBounds_toArray, List.set_cons_succ, List.set_cons_zero]
        refine wm_q2 (i := 1) (some 31) rfl rfl rfl HS2 (fun W HS => by (go_simp; try with_reducible rfl)) ?_
        simp only [Act.put, List.getElem_toArray, List.getElem_cons_succ, List.getElem_cons_zero, List.setIfInBounds_toArray, List.set_cons_succ, List.set_cons_zero]
        refine wm_q2 (i := 2) (some 32) rfl rfl rfl HS2 (fun W HS => (by ((refine ry_len _ _ _ _ 23 Try.underlying40 (hR.held HS) ?_; rfl)))) ?_
        simp only [Act.put, List.getElem_toArray, List.getElem_cons_succ, List.getElem_cons_zero, List.setIfInBounds_toArray, List.set_cons_succ, List.set_cons_zero]
        refine wm_q2 (i := 3) (some 33) rfl rfl rfl HS2 (fun W HS => by (go_simp; try with_reducible rfl)) ?_
        simp only [Act.put, List.getElem_toArray, List.getElem_cons_succ, List.getElem_cons_zero, List.setIfInBounds_toArray, List.set_cons_succ, List.set_cons_zero]
        (refine wm_q2x (i := 4) (some 34) rfl rfl rfl HS2 (ry_slice_hi _ 23 _ _ _ _ _ _ encK_len Try.underlying40 sz23 (hR.mem HM) rfl rfl (by omega) (by omega)) ?_); intro v34 hv34
        simp only [Act.put, List.getElem_toArray, List.getElem_cons_succ, List.getElem_cons_zero, List.setIfInBounds_toArray, List.set_cons_succ, List.set_cons_zero]
        refine wm_q2 (i := 5) (some 35) rfl rfl rfl HS2 (fun W HS => by (go_simp; try with_reducible rfl)) ?_
        simp only [Act.put, List.getElem_toArray, List.getElem_cons_succ, List.getElem_cons_zero, List.setIfInBounds_toArray, List.set_cons_succ, List.set_cons_zero]
        refine wm_q2 (i := 6) (some 36) rfl rfl rfl HS2 (fun W HS => by (go_simp; try with_reducible rfl)) ?_
        simp only [Act.put, List.getElem_toArray, List.getElem_cons_succ, List.getElem_cons_zero, List.setIfInBounds_toArray, List.set_cons_succ, List.set_cons_zero]
        refine wm_q2 (i := 7) (some 37) rfl rfl rfl HS2 (fun W HS => (by ((refine ry_len _ _ _ _ 23 Try.underlying40 (hR.held HS) ?_; rfl)))) ?_
        simp only [Act.put, List.getElem_toArray, List.getElem_cons_succ, List.getElem_cons_zero, List.setIfInBounds_toArray, List.set_cons_succ, List.set_cons_zero]
        refine wm_q2 (i := 8) (some 38) rfl rfl rfl HS2 (fun W HS => by (go_simp; try with_reducible rfl)) ?_
        simp only [Act.put, List.getElem_toArray, List.getElem_cons_succ, List.getElem_cons_zero, List.setIfInBounds_toArray, List.set_cons_succ, List.set_cons_zero]
        (refine wm_q2x (i := 9) (some 39) rfl rfl rfl HS2 (ry_index _ 23 _ _ _ _ _ _ _ (fun W => Held w W []) W encK_len Try.underlying40 sz23 HS2 (fun W HS => hR.held HS) rfl rfl (by omega) (by first | assumption | simp [*])) ?_); intro p39 hp39
        simp only [Act.put, List.getElem_toArray, List.getElem_cons_succ, List.getElem_cons_zero, List.setIfInBounds_toArray, List.set_cons_succ, List.set_cons_zero]
        refine wm_q2 (i := 10) (some 40) rfl rfl rfl HS2 (fun W HS => (by refine ry_load_key _ _ _ _ ?_ (hp39 W HS) Try.underlying23 sz23; rfl)) ?_
        simp only [Act.put, List.getElem_toArray, List.getElem_cons_succ, List.getElem_cons_zero, List.setIfInBounds_toArray, List.set_cons_succ, List.set_cons_zero]
        refine wm_e0 (i := 11) rfl ?_
        go_wp2_with (first
          | ((with_reducible refine s_ 13 ?_); go_must (refine wl_alloc (dst := some 13) (cs := kc zeroKey) 23 _ Try.zeroValue23 kc_zero HM ?_; clear HM; intro b13 W HM)))
        refine ⟨HM.held (by simp), ?_⟩
        clear HS1 HS2
        have HS1 : Held w W [] := HM.held (by simp)
        have HS2 : Held w W [] := HM.held (by simp)
        refine wm_q2 (i := 12) (some 12) rfl rfl rfl HS2 (fun W HS => by (go_simp; try with_reducible rfl)) ?_
        simp only [Act.put, List.getElem_toArray, List.getElem_cons_succ, List.getElem_cons_zero, List.setIfInBounds_toArray, List.set_cons_succ, List.set_cons_zero]
        refine wm_e0 (i := 13) rfl ?_
        go_wp2_with (first
          | ((with_reducible refine st_ 23 ?_); go_must ((refine wl_store_blk _ _ _ _ _ _ _ rfl rfl HM .here (by rw [kc_size]; exact sz23) (by simp only [kc_size]) (kc_one _) ?_); clear HM; intro W HM)))
        refine ⟨HM.held (by simp), ?_⟩
        clear HS1 HS2
        have HS1 : Held w W [] := HM.held (by simp)
        have HS2 : Held w W [] := HM.held (by simp)
        refine wm_nilN ?_
        clear HS1 HS2
        go_wp2_with (first
          | ((with_reducible refine s_ 16 ?_); go_must (refine wl_alloc (dst := some 16) (cs := kc zeroKey) 23 _ Try.zeroValue23 kc_zero HM ?_; clear HM; intro b16 W HM))
          | ((with_reducible refine s_ 76 ?_); go_must ((refine wl_slice1V (dst := some 76) _ _ _ q Try.underlying45 Try.sizeOf24 Try.zeroValue24 (text_cells HM m0) rfl HM ?_; clear HM; intro b76 W HM)))
          | ((with_reducible refine s_ 77 ?_); go_must ((refine wl_appendM (dst := some 77) (enc := encV) _ _ _ _ _ _ _ _ _ _ _ [q] Try.underlying45 inf24 rfl (by decide) encV_len (by intro y hy; rw [List.mem_singleton.1 hy]; exact encV_one q (text_one HM m1)) HM (.there (.there (.there (.there (.there (.there .here)))))) (RdL.of_blk (HM.blk m0) _ 1 rfl (by simp [encV]) (by decide)) rfl rfl (by decide) (by have := hT1.len; simp; omega) ?_; clear HM; intro v77 W HM; try dsimp only at HM)))
          | ((with_reducible refine ld_ 23 ?_); go_must (refine wl_load_blk _ _ _ _ _ _ rfl HM (by repeat first | exact List.mem_cons_self .. | refine List.mem_cons_of_mem _ ?_) Try.underlying23 rfl (by rw [kc_size]; exact sz23) ?_))
          | ((with_reducible refine st_ 23 ?_); go_must ((first | refine wl_store_blk _ _ _ _ _ _ _ rfl rfl HM .here (by rw [kc_size]; exact sz23) (by simp only [kc_size]) (kc_one _) ?_ | refine wl_store_blk _ _ _ _ _ _ _ rfl rfl HM (.there (.there (.there (.there .here)))) (by rw [kc_size]; exact sz23) (by simp only [kc_size]) (kc_one _) ?_); clear HM; intro W HM))
          | (go_at_call 80; go_must (((with_reducible refine (ih (splitN n) (by omega) i _ _ _ (hv34 _ (hR.mem HM)) (by omega) (by omega) (by omega) hpl2).mono ?_)); rintro e W ⟨u1, rfl, us1, R1, hT1, hX1, HM'⟩; replace HM := HM.join HM'; clear HM'; simp only [List.cons_append, List.nil_append] at HM; replace HM := HM.bk; simp only [List.cons_append, List.nil_append] at HM))
          | (go_at_call 128; go_must (((with_reducible refine (rnodeTextT _ _ _).mono ?_)); rintro e W ⟨q, rfl, HM'⟩; replace HM := HM.join HM'; clear HM'; simp only [List.cons_append, List.nil_append] at HM))
          | (go_at_call 125; go_must (((with_reducible refine (rdigest_c _ _ _ (rd_text HM m0) (by rw [textNode_len]; decide)).mono ?_)); rintro e W ⟨rfl, HM'⟩; replace HM := HM.keep HM'.below; clear HM')))
        refine ret2 rfl (by (exact res_row HM rfl m4 Try.underlying23 rfl (by rw [kc_size]; exact sz23))) (res_tmp rfl) rfl ?_
        rw [ht] at hT1
        have H := (HM.sub (.cons _ (.cons_cons _ (.cons _ (.cons _ (.cons _ (.cons _ (.refl _)))))))).perm (List.Perm.swap _ _ _)
        rw [valsT_snoc _ _ (textNode (climbL leaf (splitN n) i (p.take (p.length - 1))) (lastK p)), show us1.length + [q].length = (us1 ++ [(q, (textNode (climbL leaf (splitN n) i (p.take (p.length - 1))) (lastK p)))]).length by simp] at H
        exact ⟨v77, rfl, _, _, hT1.app (TxIs.one q _), (Tx.inr [rowT _] hX1).app (Tx.one m0), H⟩
      · have hb2 : ¬ (i : Int) < ((splitN n : Nat) : Int) := by omega
        have hpl2 : (p.take ((p.length : Int) - 1).toNat).length = stepsN (n - splitN n) (i - splitN n) := by
          rw [List.length_take, ht, hpl, stepsN_hi n i (by omega) hlo]; omega
        clear hpl
        have hw1 : IntKind.i64.wrap ((n : Int) - ((splitN n : Nat) : Int)) = ((n - splitN n : Nat) : Int) := by rw [IntKind.wrap_i64]; omega
        have hw2 : IntKind.i64.wrap ((i : Int) - ((splitN n : Nat) : Int)) = ((i - splitN n : Nat) : Int) := by rw [IntKind.wrap_i64]; omega
        rw [climbL_hi leaf n i p (by omega) hlo, climbT_hi leaf n i p (by omega) hlo]
        have hz2 := climbT_len (n - splitN n) leaf (i - splitN n) (p.take ((p.length : Int) - 1).toNat)
        go_enter Try.func80, Try.ntmps80
        go_wp2_with (first
          | ((with_reducible refine s_ 4 ?_); go_must (refine wl_box (dst := some 4) (cs := kc leaf) _ _ _ rfl rfl HM ?_; clear HM; intro b4 W HM))
          | ((with_reducible refine s_ 8 ?_); go_must (refine wl_alloc (dst := some 8) (cs := kc zeroKey) 23 _ Try.zeroValue23 kc_zero HM ?_; clear HM; intro b8 W HM))
          | (go_at_call 127; go_must (((with_reducible refine (rsplit_c _ (by omega) (by omega) _).mono ?_)); rintro e W ⟨rfl, HM'⟩; replace HM := HM.keep HM'.below; clear HM')))
        replace HM := HM.drew
        refine wp_region_mixN (fun W => Held w W []) (fun W => Held w W []) (.cons (2, 0) (.cons (2, 1) (.cons (2, 2) (.cons (2, 3) (.cons (2, 4) (.cons (2, 5) (.cons (2, 6) (.cons (2, 7) (.cons (2, 8) (.cons (2, 9) (.cons (2, 10) (.cons (0, 11) (.cons (2, 12) (.cons (0, 13) .nil)))))))))))))) [] (by kernel_rfl) (by kernel_rfl) (by kernel_rfl) (fun W h => Held.weak h (by simp)) (HM.held (by simp)) ?_
        revert HM; generalize World.drew _ = W; intro HM
        have HS1 : Held w W [] := HM.held (by simp)
        have HS2 : Held w W [] := HM.held (by simp)
        refine wm_q2 (i := 0) (some 30) rfl rfl rfl HS2 (fun W HS => by (go_simp; try with_reducible rfl)) ?_
        simp only [Act.put, List.getElem_toArray, List.getElem_cons_succ, List.getElem_cons_zero, List.setIfInBounds_toArray, List.set_cons_succ, List.set_cons_zero]
        refine wm_q2 (i := 1) (some 31) rfl rfl rfl HS2 (fun W HS => by (go_simp; try with_reducible rfl)) ?_
        simp only [Act.put, List.getElem_toArray, List.getElem_cons_succ, List.getElem_cons_zero, List.setIfInBounds_toArray, List.set_cons_succ, List.set_cons_zero]
        refine wm_q2 (i := 2) (some 32) rfl rfl rfl HS2 (fun W HS => (by ((refine ry_len _ _ _ _ 23 Try.underlying40 (hR.held HS) ?_; rfl)))) ?_
        simp only [Act.put, List.getElem_toArray, List.getElem_cons_succ, List.getElem_cons_zero, List.setIfInBounds_toArray, List.set_cons_succ, List.set_cons_zero]
        refine wm_q2 (i := 3) (some 33) rfl rfl rfl HS2 (fun W HS => by (go_simp; try with_reducible rfl)) ?_
        simp only [Act.put, List.getElem_toArray, List.getElem_cons_succ, List.getElem_cons_zero, List.setIfInBounds_toArray, List.set_cons_succ, List.set_cons_zero]
        (refine wm_q2x (i := 4) (some 34) rfl rfl rfl HS2 (ry_slice_hi _ 23 _ _ _ _ _ _ encK_len Try.underlying40 sz23 (hR.mem HM) rfl rfl (by omega) (by omega)) ?_); intro v34 hv34
        simp only [Act.put, List.getElem_toArray, List.getElem_cons_succ, List.getElem_cons_zero, List.setIfInBounds_toArray, List.set_cons_succ, List.set_cons_zero]
        refine wm_q2 (i := 5) (some 35) rfl rfl rfl HS2 (fun W HS => by (go_simp; try with_reducible rfl)) ?_
        simp only [Act.put, List.getElem_toArray, List.getElem_cons_succ, List.getElem_cons_zero, List.setIfInBounds_toArray, List.set_cons_succ, List.set_cons_zero]
        refine wm_q2 (i := 6) (some 36) rfl rfl rfl HS2 (fun W HS => by (go_simp; try with_reducible rfl)) ?_
        simp only [Act.put, List.getElem_toArray, List.getElem_cons_succ, List.getElem_cons_zero, List.setIfInBounds_toArray, List.set_cons_succ, List.set_cons_zero]
        refine wm_q2 (i := 7) (some 37) rfl rfl rfl HS2 (fun W HS => (by ((refine ry_len _ _ _ _ 23 Try.underlying40 (hR.held HS) ?_; rfl)))) ?_
        simp only [Act.put, List.getElem_toArray, List.getElem_cons_succ, List.getElem_cons_zero, List.setIfInBounds_toArray, List.set_cons_succ, List.set_cons_zero]
        refine wm_q2 (i := 8) (some 38) rfl rfl rfl HS2 (fun W HS => by (go_simp; try with_reducible rfl)) ?_
        simp only [Act.put, List.getElem_toArray, List.getElem_cons_succ, List.getElem_cons_zero, List.setIfInBounds_toArray, List.set_cons_succ, List.set_cons_zero]
        (refine wm_q2x (i := 9) (some 39) rfl rfl rfl HS2 (ry_index _ 23 _ _ _ _ _ _ _ (fun W => Held w W []) W encK_len Try.underlying40 sz23 HS2 (fun W HS => hR.held HS) rfl rfl (by omega) (by first | assumption | simp [*])) ?_); intro p39 hp39
        simp only [Act.put, List.getElem_toArray, List.getElem_cons_succ, List.getElem_cons_zero, List.setIfInBounds_toArray, List.set_cons_succ, List.set_cons_zero]
        refine wm_q2 (i := 10) (some 40) rfl rfl rfl HS2 (fun W HS => (by refine ry_load_key _ _ _ _ ?_ (hp39 W HS) Try.underlying23 sz23; rfl)) ?_
        simp only [Act.put, List.getElem_toArray, List.getElem_cons_succ, List.getElem_cons_zero, List.setIfInBounds_toArray, List.set_cons_succ, List.set_cons_zero]
        refine wm_e0 (i := 11) rfl ?_
        go_wp2_with (first
          | ((with_reducible refine s_ 13 ?_); go_must (refine wl_alloc (dst := some 13) (cs := kc zeroKey) 23 _ Try.zeroValue23 kc_zero HM ?_; clear HM; intro b13 W HM)))
        refine ⟨HM.held (by simp), ?_⟩
        clear HS1 HS2
        have HS1 : Held w W [] := HM.held (by simp)
        have HS2 : Held w W [] := HM.held (by simp)
        refine wm_q2 (i := 12) (some 12) rfl rfl rfl HS2 (fun W HS => by (go_simp; try with_reducible rfl)) ?_
        simp only [Act.put, List.getElem_toArray, List.getElem_cons_succ, List.getElem_cons_zero, List.setIfInBounds_toArray, List.set_cons_succ, List.set_cons_zero]
        refine wm_e0 (i := 13) rfl ?_
        go_wp2_with (first
          | ((with_reducible refine st_ 23 ?_); go_must ((refine wl_store_blk _ _ _ _ _ _ _ rfl rfl HM .here (by rw [kc_size]; exact sz23) (by simp only [kc_size]) (kc_one _) ?_); clear HM; intro W HM)))
        refine ⟨HM.held (by simp), ?_⟩
        clear HS1 HS2
        have HS1 : Held w W [] := HM.held (by simp)
        have HS2 : Held w W [] := HM.held (by simp)
        refine wm_nilN ?_
        clear HS1 HS2
        go_wp2_with (first
          | ((with_reducible refine s_ 18 ?_); go_must (refine wl_alloc (dst := some 18) (cs := kc zeroKey) 23 _ Try.zeroValue23 kc_zero HM ?_; clear HM; intro b18 W HM))
          | ((with_reducible refine s_ 76 ?_); go_must ((refine wl_slice1V (dst := some 76) _ _ _ q Try.underlying45 Try.sizeOf24 Try.zeroValue24 (text_cells HM m0) rfl HM ?_; clear HM; intro b76 W HM)))
          | ((with_reducible refine s_ 77 ?_); go_must ((refine wl_appendM (dst := some 77) (enc := encV) _ _ _ _ _ _ _ _ _ _ _ [q] Try.underlying45 inf24 rfl (by decide) encV_len (by intro y hy; rw [List.mem_singleton.1 hy]; exact encV_one q (text_one HM m1)) HM (.there (.there (.there (.there (.there (.there .here)))))) (RdL.of_blk (HM.blk m0) _ 1 rfl (by simp [encV]) (by decide)) rfl rfl (by decide) (by have := hT1.len; simp; omega) ?_; clear HM; intro v77 W HM; try dsimp only at HM)))
          | ((with_reducible refine ld_ 23 ?_); go_must (refine wl_load_blk _ _ _ _ _ _ rfl HM (by repeat first | exact List.mem_cons_self .. | refine List.mem_cons_of_mem _ ?_) Try.underlying23 rfl (by rw [kc_size]; exact sz23) ?_))
          | ((with_reducible refine st_ 23 ?_); go_must ((first | refine wl_store_blk _ _ _ _ _ _ _ rfl rfl HM .here (by rw [kc_size]; exact sz23) (by simp only [kc_size]) (kc_one _) ?_ | refine wl_store_blk _ _ _ _ _ _ _ rfl rfl HM (.there (.there (.there (.there .here)))) (by rw [kc_size]; exact sz23) (by simp only [kc_size]) (kc_one _) ?_); clear HM; intro W HM))
          | (go_at_call 80; go_must (((with_reducible refine (ih (n - splitN n) (by omega) (i - splitN n) _ _ _ (hv34 _ (hR.mem HM)) (by omega) (by omega) (by omega) hpl2).mono ?_)); rintro e W ⟨u1, rfl, us1, R1, hT1, hX1, HM'⟩; replace HM := HM.join HM'; clear HM'; simp only [List.cons_append, List.nil_append] at HM; replace HM := HM.bk; simp only [List.cons_append, List.nil_append] at HM))
          | (go_at_call 128; go_must (((with_reducible refine (rnodeTextT _ _ _).mono ?_)); rintro e W ⟨q, rfl, HM'⟩; replace HM := HM.join HM'; clear HM'; simp only [List.cons_append, List.nil_append] at HM))
          | (go_at_call 125; go_must (((with_reducible refine (rdigest_c _ _ _ (rd_text HM m0) (by rw [textNode_len]; decide)).mono ?_)); rintro e W ⟨rfl, HM'⟩; replace HM := HM.keep HM'.below; clear HM')))
        refine ret2 rfl (by (exact res_row HM rfl m4 Try.underlying23 rfl (by rw [kc_size]; exact sz23))) (res_tmp rfl) rfl ?_
        rw [ht] at hT1
        have H := (HM.sub (.cons _ (.cons_cons _ (.cons _ (.cons _ (.cons _ (.cons _ (.refl _)))))))).perm (List.Perm.swap _ _ _)
        rw [valsT_snoc _ _ (textNode (lastK p) (climbL leaf (n - splitN n) (i - splitN n) (p.take (p.length - 1)))), show us1.length + [q].length = (us1 ++ [(q, (textNode (lastK p) (climbL leaf (n - splitN n) (i - splitN n) (p.take (p.length - 1)))))]).length by simp] at H
        exact ⟨v77, rfl, _, _, hT1.app (TxIs.one q _), (Tx.inr [rowT _] hX1).app (Tx.one m0), H⟩
end
end
section
set_option linter.unusedVariables false
set_option linter.unusedSimpArgs false
set_option maxRecDepth 8000
open Go.RowKit
section
variable {P : Program} {ops : Array Oper} {rest : List Oper} {a : Act} {Q : Exit → Act → World → Prop} {W : World} {dst : Option Tmp} {tt : TypeId} {ps : String} {af : Array Edge}
def GP (c b : Bool) (A B : Prop) : Prop := if c = b then A else B
theorem gp_y {b : Bool} {A B : Prop} (h : A) : GP b b A B := by rw [GP, if_pos rfl]; exact h
theorem gp_ft {A B : Prop} (h : B) : GP false true A B := by rw [GP, if_neg (by decide)]; exact h
theorem gp_tf {A B : Prop} (h : B) : GP true false A B := by rw [GP, if_neg (by decide)]; exact h
theorem wl_gg {op : Op} {j : Nat} {b c : Bool} (d : Tmp) (hd : (ops[j]?).bind (·.dst) = some d) (hv : a.tmps[d]? = some (.bool c))
    (h : GP c b (wpList P ops Q (Oper.mk dst op tt ps af none :: rest) a W) (wpList P ops Q rest (a.put dst undef) W)) : wpList P ops Q (Oper.mk dst op tt ps af (some (j, b)) :: rest) a W := by
  by_cases hb : c = b
  · subst hb
    rw [GP, if_pos rfl] at h
    refine wl_guard ?_ h
    simp only [Region.wanted, yielded, hd, Option.bind_some, hv]
    simp
  · rw [GP, if_neg hb] at h
    have hw : Region.wanted (Oper.mk dst op tt ps af (some (j, b))) (yielded ops a.tmps) = false := by
      simp only [Region.wanted, yielded, hd, Option.bind_some, hv]
      simpa using hb
    unfold wpList
    rw [if_neg (by rw [hw]; decide)]
    exact h
end
def FitIs (m n i : Nat) : Prop := m = stepsN n i
theorem FitIs.eq {m n i : Nat} (h : FitIs m n i) : m = stepsN n i := h
theorem fitB_is {n i : Int} {m : Nat} (h : fitB n i m = true) : ∃ a b : Nat, n = a ∧ i = b ∧ 1 ≤ a ∧ a ≤ 128 ∧ b < a ∧ FitIs m a b := fitB_true h
section
attribute [local irreducible] rowT
attribute [local go_sem] keyEqI
set_option maxHeartbeats 800000 in
theorem gives_c (r leaf : Key) (n i : Nat) (v : Value) (p : List Key) (w : World) (hR : RdL encK 16 w v p) (h1 : 1 ≤ n) (hn : n ≤ 128) (hi : i < n) (hpl : p.length = stepsN n i) :
    Calls Try.prog 76 #[.agg (kc r), .agg (kc leaf), .agg #[.int .i64 (n : Int), .int .i64 (i : Int), v]] w fun e w' => e = .returned (.bool (decide (climbL leaf n i p = r))) ∧ Mem w w' [] := by
  have HM := Mem.start w
  have hv1 := rd_one hR
  go_enter Try.func76, Try.ntmps76
  go_wp2_with (first
    | ((with_reducible refine s_ 3 ?_); go_must (refine wl_box (dst := some 3) (cs := kc r) _ _ _ rfl rfl HM ?_; clear HM; intro b3 W HM))
    | ((with_reducible refine s_ 4 ?_); go_must (refine wl_box (dst := some 4) (cs := kc leaf) _ _ _ rfl rfl HM ?_; clear HM; intro b4 W HM))
    | ((with_reducible refine s_ 5 ?_); go_must (refine wl_box (dst := some 5) (cs := #[.int .i64 (n : Int), .int .i64 (i : Int), v]) _ _ _ rfl rfl HM ?_; clear HM; intro b5 W HM))
    | ((with_reducible refine s_ 7 ?_); go_must (refine wl_alloc (dst := some 7) (cs := kc zeroKey) 23 _ Try.zeroValue23 kc_zero HM ?_; clear HM; intro b7 W HM))
    | ((with_reducible refine ld_ 23 ?_); go_must (refine wl_load_blk _ _ _ _ _ _ rfl HM (by repeat first | exact List.mem_cons_self .. | refine List.mem_cons_of_mem _ ?_) Try.underlying23 rfl (by rw [kc_size]; exact sz23) ?_))
    | ((with_reducible refine ld_ 52 ?_); go_must (refine wl_load_blk _ _ _ _ _ _ rfl HM (by repeat first | exact List.mem_cons_self .. | refine List.mem_cons_of_mem _ ?_) Try.underlying52 rfl (by exact sz52) ?_))
    | ((with_reducible refine st_ 23 ?_); go_must ((refine wl_store_blk _ _ _ _ _ _ _ rfl rfl HM .here (by rw [kc_size]; exact sz23) (by simp only [kc_size]) (kc_one _) ?_); clear HM; intro W HM))
    | (go_at_call 79; go_must (((with_reducible refine (given_c leaf n i v p _ (hR.mem HM) h1 hn hi hpl).mono ?_)); rintro e W ⟨u, rfl, us, R, hT, hX, HM'⟩; replace HM := HM.keep HM'.below; clear HM')))
  refine ret1 rfl (res_tmp rfl) rfl ?_
  exact ⟨rfl, HM.base⟩
set_option maxHeartbeats 800000 in
theorem rGives_c (leaf : Key) (n i : Nat) (v : Value) (p : List Key) (w : World) (hR : RdL encK 16 w v p) (h1 : 1 ≤ n) (hn : n ≤ 128) (hi : i < n) (hpl : p.length = stepsN n i) :
    Calls Try.prog 78 #[.agg (kc leaf), .agg #[.int .i64 (n : Int), .int .i64 (i : Int), v]] w fun e w' => e = .returned (.agg (kc (climbL leaf n i p))) ∧ Mem w w' [] := by
  have HM := Mem.start w
  go_enter Try.func78, Try.ntmps78
  go_wp2_with (first
    | ((with_reducible refine s_ 2 ?_); go_must (refine wl_box (dst := some 2) (cs := kc leaf) _ _ _ rfl rfl HM ?_; clear HM; intro b2 W HM))
    | ((with_reducible refine s_ 3 ?_); go_must (refine wl_box (dst := some 3) (cs := #[.int .i64 (n : Int), .int .i64 (i : Int), v]) _ _ _ rfl rfl HM ?_; clear HM; intro b3 W HM))
    | ((with_reducible refine s_ 4 ?_); go_must (refine wl_alloc (dst := some 4) (cs := kc zeroKey) 23 _ Try.zeroValue23 kc_zero HM ?_; clear HM; intro b4 W HM))
    | ((with_reducible refine s_ 5 ?_); go_must (refine wl_alloc (dst := some 5) (cs := kc zeroKey) 23 _ Try.zeroValue23 kc_zero HM ?_; clear HM; intro b5 W HM))
    | ((with_reducible refine ld_ 23 ?_); go_must (refine wl_load_blk _ _ _ _ _ _ rfl HM (by repeat first | exact List.mem_cons_self .. | refine List.mem_cons_of_mem _ ?_) Try.underlying23 rfl (by rw [kc_size]; exact sz23) ?_))
    | ((with_reducible refine ld_ 3 ?_); go_must (refine wl_load_cell _ _ _ _ _ _ _ _ rfl HM (by repeat first | exact List.mem_cons_self .. | refine List.mem_cons_of_mem _ ?_) (by rfl) Try.underlying3 rfl ?_))
    | ((with_reducible refine ld_ 40 ?_); go_must (refine wl_load_cell _ _ _ _ _ _ _ _ rfl HM (by repeat first | exact List.mem_cons_self .. | refine List.mem_cons_of_mem _ ?_) (by rfl) Try.underlying40 rfl ?_))
    | ((with_reducible refine st_ 23 ?_); go_must ((first | refine wl_store_blk _ _ _ _ _ _ _ rfl rfl HM .here (by rw [kc_size]; exact sz23) (by simp only [kc_size]) (kc_one _) ?_ | refine wl_store_blk _ _ _ _ _ _ _ rfl rfl HM (.there .here) (by rw [kc_size]; exact sz23) (by simp only [kc_size]) (kc_one _) ?_); clear HM; intro W HM))
    | (go_at_call 80; go_must (((with_reducible refine (rgiven_c leaf n i v p _ (hR.mem HM) h1 hn hi hpl).mono ?_)); rintro e W ⟨u, rfl, us, R, hT, hX, HM'⟩; replace HM := HM.keep HM'.below; clear HM')))
  refine ret1 rfl (by (exact res_row HM rfl m1 Try.underlying23 rfl (by rw [kc_size]; exact sz23))) rfl ?_
  exact ⟨rfl, HM.base⟩
end
end
section
set_option linter.unusedVariables false
set_option linter.unusedSimpArgs false
set_option maxRecDepth 8000
open Go.RowKit
theorem ent_ways (x : Ent) :
    (decide (-1 ≤ x.1) = false ∧ entB x = false) ∨ (decide (-1 ≤ x.1) = true ∧ decide (x.1 ≤ 64) = false ∧ entB x = false) ∨ (decide (-1 ≤ x.1) = true ∧ decide (x.1 ≤ 64) = true ∧ decide (0 ≤ x.2) = false ∧ entB x = false) ∨
    (decide (-1 ≤ x.1) = true ∧ decide (x.1 ≤ 64) = true ∧ decide (0 ≤ x.2) = true ∧ decide (x.2 ≤ 1099511627776) = false ∧ entB x = false) ∨
    (decide (-1 ≤ x.1) = true ∧ decide (x.1 ≤ 64) = true ∧ decide (0 ≤ x.2) = true ∧ decide (x.2 ≤ 1099511627776) = true ∧ entB x = true) := by
  by_cases h1 : -1 ≤ x.1
  · by_cases h2 : x.1 ≤ 64
    · by_cases h3 : 0 ≤ x.2
      · by_cases h4 : x.2 ≤ 1099511627776
        · exact .inr (.inr (.inr (.inr ⟨decide_eq_true h1, decide_eq_true h2, decide_eq_true h3, decide_eq_true h4, decide_eq_true ⟨h1, h2, h3, h4⟩⟩)))
        · exact .inr (.inr (.inr (.inl ⟨decide_eq_true h1, decide_eq_true h2, decide_eq_true h3, decide_eq_false h4, decide_eq_false fun h => h4 h.2.2.2⟩)))
      · exact .inr (.inr (.inl ⟨decide_eq_true h1, decide_eq_true h2, decide_eq_false h3, decide_eq_false fun h => h3 h.2.2.1⟩))
    · exact .inr (.inl ⟨decide_eq_true h1, decide_eq_false h2, decide_eq_false fun h => h2 h.2.1⟩)
  · exact .inl ⟨decide_eq_false h1, decide_eq_false fun h => h1 h.1⟩
set_option maxHeartbeats 1600000 in
theorem isEntry_c (x : Ent) (w : World) :
    Calls Try.prog 90 #[.agg #[.int .i64 x.1, .int .i64 x.2]] w fun e w' => e = .returned (.bool (entB x)) ∧ Mem w w' [] := by
  have HM := Mem.start w
  rcases ent_ways x with ⟨c1, hk⟩ | ⟨c1, c2, hk⟩ | ⟨c1, c2, c3, hk⟩ | ⟨c1, c2, c3, c4, hk⟩ | ⟨c1, c2, c3, c4, hk⟩
  all_goals
    rw [hk]
    clear hk
    go_enter Try.func90, Try.ntmps90
    go_wp2_with (first
      | ((with_reducible refine gd_ _ ?_); refine wl_gg _ rfl rfl ?_; first | (with_reducible refine gp_y ?_) | ((first | (with_reducible refine gp_ft ?_) | (with_reducible refine gp_tf ?_)); simp only [Act.put, List.getElem_toArray, List.getElem_cons_succ, List.getElem_cons_zero, List.setIfInBounds_toArray, List.set_cons_succ, List.set_cons_zero]))
      | ((with_reducible refine s_ 1 ?_); go_must (refine wl_box (dst := some 1) (cs := #[.int .i64 x.1, .int .i64 x.2]) _ _ _ rfl rfl HM ?_; clear HM; intro b1 W HM))
      | ((with_reducible refine ld_ 3 ?_); go_must (refine wl_load_cell _ _ _ _ _ _ _ _ rfl HM (by repeat first | exact List.mem_cons_self .. | refine List.mem_cons_of_mem _ ?_) (by rfl) Try.underlying3 rfl ?_)))
    refine ret1 rfl (res_tmp rfl) rfl ?_
    exact ⟨rfl, HM.base⟩
set_option maxHeartbeats 1600000 in
theorem rIsEntry_c (x : Ent) (w : World) :
    Calls Try.prog 92 #[.agg #[.int .i64 x.1, .int .i64 x.2]] w fun e w' => e = .returned (.bool (entB x)) ∧ Mem w w' [] := by
  have HM := Mem.start w
  rcases ent_ways x with ⟨c1, hk⟩ | ⟨c1, c2, hk⟩ | ⟨c1, c2, c3, hk⟩ | ⟨c1, c2, c3, c4, hk⟩ | ⟨c1, c2, c3, c4, hk⟩
  all_goals
    rw [hk]
    clear hk
    go_enter Try.func92, Try.ntmps92
    go_wp2_with (first
      | ((with_reducible refine gd_ _ ?_); refine wl_gg _ rfl rfl ?_; first | (with_reducible refine gp_y ?_) | ((first | (with_reducible refine gp_ft ?_) | (with_reducible refine gp_tf ?_)); simp only [Act.put, List.getElem_toArray, List.getElem_cons_succ, List.getElem_cons_zero, List.setIfInBounds_toArray, List.set_cons_succ, List.set_cons_zero]))
      | ((with_reducible refine s_ 1 ?_); go_must (refine wl_box (dst := some 1) (cs := #[.int .i64 x.1, .int .i64 x.2]) _ _ _ rfl rfl HM ?_; clear HM; intro b1 W HM))
      | ((with_reducible refine ld_ 3 ?_); go_must (refine wl_load_cell _ _ _ _ _ _ _ _ rfl HM (by repeat first | exact List.mem_cons_self .. | refine List.mem_cons_of_mem _ ?_) (by rfl) Try.underlying3 rfl ?_)))
    refine ret1 rfl (res_tmp rfl) rfl ?_
    exact ⟨rfl, HM.base⟩
end
end Go.Proofs.Ythdekionepfmdaa
