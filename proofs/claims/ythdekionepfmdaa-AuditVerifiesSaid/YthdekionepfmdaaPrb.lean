/- Proofs of leaves: the program's and the reference's; equal proofs. -/
import Derived.Test.YthdekionepfmdaaPra
set_option linter.unusedVariables false
set_option linter.unusedSimpArgs false
set_option maxRecDepth 8000
namespace Go.Proofs.Ythdekionepfmdaa
open Go.RowKit

theorem run_build_prf (n i : Int) (u : Value) (hu : u.cells = #[u]) (w : World) : (Instr.build 52 #[(0, .int .i64 n), (1, .int .i64 i), (2, u)]).run Try.prog w = .ok (.agg #[.int .i64 n, .int .i64 i, u]) w := by
  simp [Instr.build, Try.zeroValue52, run_underlying Try.underlying52, Try.sizeOf3, Try.sizeOf40, Instr.fill, show ∀ cs, (Value.agg cs).cells = cs from fun _ => rfl, hu, show ∀ n, (Value.int .i64 n).cells = #[.int .i64 n] from fun _ => rfl]
theorem run_build_prf0 (w : World) : (Instr.build 52 #[]).run Try.prog w = .ok (.agg #[.int .i64 0, .int .i64 0, .slice none 0 0]) w := by
  simp [Instr.build, Try.zeroValue52, run_underlying Try.underlying52, Try.sizeOf3, Try.sizeOf40, Instr.fill, show ∀ cs, (Value.agg cs).cells = cs from fun _ => rfl]
theorem prf_one (n i : Int) (u : Value) (h : u.oneCell' = true) : (#[Value.int .i64 n, .int .i64 i, u]).all (·.oneCell') = true :=
  all_oneCell_toArray (cs := [.int .i64 n, .int .i64 i, u]) fun x hx => by
    simp only [List.mem_cons, List.not_mem_nil, or_false] at hx
    rcases hx with rfl | rfl | rfl
    · rfl
    · rfl
    · exact h

set_option maxHeartbeats 400000 in
theorem proof_c (l : List Key) (i : Nat) (v : Value) (w : World) (hn : l.length ≤ 256) (hi : i < l.length) (hR : RdL encK 16 w v l) :
    Calls Try.prog 70 #[v, .int .i64 (i : Int)] w fun e w' => ∃ u, e = .returned (.agg #[.int .i64 l.length, .int .i64 i, u]) ∧ Mem w w' [.row u 23 16 (pathL l i).length ((pathL l i).flatMap encK)] := by
  have HM := Mem.start w
  go_enter Try.func70, Try.ntmps70
  go_wp2_with (first
    | ((with_reducible refine st_ 52 ?_); go_must (refine wl_store_blk _ _ _ _ _ _ _ rfl rfl HM (.there .here) sz52 rfl (prf_one _ _ _ hu1) ?_; clear HM; intro W HM))
    | ((with_reducible refine s_ 4 ?_); go_must (refine wl_alloc (dst := some 4) (cs := #[Value.int IntKind.i64 0, Value.int IntKind.i64 0, Value.slice none 0 0]) 52 _ Try.zeroValue52 rfl HM ?_; clear HM; intro b4 W HM))
    | ((with_reducible refine s_ 6 ?_); go_must ((refine wl_len (dst := some 6) _ _ _ _ 23 Try.underlying40 rfl (hR.mem HM) ?_)))
    | ((with_reducible refine s_ 11 ?_); go_must (refine wl_build (dst := some 11) _ _ _ _ (run_build_prf _ _ _ hu) rfl ?_))
    | (go_at_call 130; go_must (((with_reducible refine (prove_c l i v _ hn hi (hR.mem HM)).mono ?_)); rintro e W ⟨u, rfl, HM'⟩; replace HM := HM.join HM'; clear HM'; simp only [List.cons_append, List.nil_append] at HM; have hu := row_cells (HM.row m0); have hu1 := row_one (HM.row m0))))
  refine ret1 rfl (by (exact res_row HM rfl m1 Try.underlying52 rfl sz52)) rfl ?_
  exact ⟨_, rfl, HM.only m0⟩
set_option maxHeartbeats 400000 in
theorem rproofOf_c (l : List Key) (i : Nat) (v : Value) (w : World) (hn : l.length ≤ 256) (hi : i < l.length) (hR : RdL encK 16 w v l) :
    Calls Try.prog 71 #[v, .int .i64 (i : Int)] w fun e w' => ∃ u, e = .returned (.agg #[.int .i64 l.length, .int .i64 i, u]) ∧ Mem w w' [.row u 23 16 (pathL l i).length ((pathL l i).flatMap encK)] := by
  have HM := Mem.start w
  go_enter Try.func71, Try.ntmps71
  go_wp2_with (first
    | ((with_reducible refine st_ 52 ?_); go_must (refine wl_store_blk _ _ _ _ _ _ _ rfl rfl HM (.there .here) sz52 rfl (prf_one _ _ _ hu1) ?_; clear HM; intro W HM))
    | ((with_reducible refine s_ 4 ?_); go_must (refine wl_alloc (dst := some 4) (cs := #[Value.int IntKind.i64 0, Value.int IntKind.i64 0, Value.slice none 0 0]) 52 _ Try.zeroValue52 rfl HM ?_; clear HM; intro b4 W HM))
    | ((with_reducible refine s_ 6 ?_); go_must ((refine wl_len (dst := some 6) _ _ _ _ 23 Try.underlying40 rfl (hR.mem HM) ?_)))
    | ((with_reducible refine s_ 11 ?_); go_must (refine wl_build (dst := some 11) _ _ _ _ (run_build_prf _ _ _ hu) rfl ?_))
    | (go_at_call 131; go_must (((with_reducible refine (rpath_c l.length l i v _ rfl (by omega) hn hi (hR.mem HM)).mono ?_)); rintro e W ⟨u, rfl, HM'⟩; replace HM := HM.join HM'; clear HM'; simp only [List.cons_append, List.nil_append] at HM; have hu := row_cells (HM.row m0); have hu1 := row_one (HM.row m0))))
  refine ret1 rfl (by (exact res_row HM rfl m1 Try.underlying52 rfl sz52)) rfl ?_
  exact ⟨_, rfl, HM.only m0⟩
def pvE (l : List Key) (i : Int) : Int := if l.length ≤ 128 then (if 0 ≤ i ∧ i < l.length then 0 else 2) else 4
def pvN (l : List Key) (i : Int) : Int := if pvE l i = 0 then l.length else 0
def pvI (l : List Key) (i : Int) : Int := if pvE l i = 0 then i else 0
def pvP (l : List Key) (i : Int) : List Key := if pvE l i = 0 then pathL l i.toNat else []
theorem pv_ok (l : List Key) (i : Int) (h : l.length ≤ 128) (h0 : 0 ≤ i) (hi : i < l.length) : pvE l i = 0 ∧ pvN l i = l.length ∧ pvI l i = i ∧ pvP l i = pathL l i.toNat := by
  have : pvE l i = 0 := by rw [pvE, if_pos h, if_pos ⟨h0, hi⟩]
  refine ⟨this, ?_, ?_, ?_⟩ <;> simp only [pvN, pvI, pvP, if_pos this]
theorem pv_arg (l : List Key) (i : Int) (h : l.length ≤ 128) (hi : ¬ (0 ≤ i ∧ i < l.length)) : pvE l i = 2 ∧ pvN l i = 0 ∧ pvI l i = 0 ∧ pvP l i = [] := by
  have : pvE l i = 2 := by rw [pvE, if_pos h, if_neg hi]
  refine ⟨this, ?_, ?_, ?_⟩ <;> simp [pvN, pvI, pvP, this]
theorem pv_many (l : List Key) (i : Int) (h : ¬ l.length ≤ 128) : pvE l i = 4 ∧ pvN l i = 0 ∧ pvI l i = 0 ∧ pvP l i = [] := by
  have : pvE l i = 4 := by rw [pvE, if_neg h]
  refine ⟨this, ?_, ?_, ?_⟩ <;> simp [pvN, pvI, pvP, this]

set_option maxHeartbeats 800000 in
theorem Prove_c (l : List Key) (i : Int) (v : Value) (w : World) (hR : RdL encK 16 w v l) :
    Calls Try.prog 20 #[v, .int .i64 i] w fun e w' => ∃ u, e = .returned (.tuple #[.agg #[.int .i64 (pvN l i), .int .i64 (pvI l i), u], .int .i64 (pvE l i)]) ∧ Mem w w' [.row u 23 16 (pvP l i).length ((pvP l i).flatMap encK)] := by
  have HM := Mem.start w
  by_cases h : l.length ≤ 128
  · have hb : ¬ (128 : Int) < (l.length : Int) := by omega
    by_cases hi : 0 ≤ i ∧ i < l.length
    · obtain ⟨h1, h2, h3, h4⟩ := pv_ok l i h hi.1 hi.2
      rw [h1, h2, h3, h4]
      clear h1 h2 h3 h4
      obtain ⟨n, rfl⟩ := Int.eq_ofNat_of_zero_le hi.1
      have hi1 : ¬ (n : Int) < 0 := by omega
      have hi2 : ¬ (l.length : Int) ≤ (n : Int) := by omega
      rw [Int.toNat_natCast]
      go_enter Try.func20, Try.ntmps20
      go_wp2_with (first
        | ((with_reducible refine gd_ _ ?_); refine wl_guard (by rfl) ?_)
        | ((with_reducible refine st_ 52 ?_); go_must (refine wl_store_blk _ _ _ _ _ _ _ rfl rfl HM (.there .here) sz52 rfl (prf_one _ _ _ hu1) ?_; clear HM; intro W HM))
        | ((with_reducible refine s_ 4 ?_); go_must (refine wl_alloc (dst := some 4) (cs := #[Value.int IntKind.i64 0, Value.int IntKind.i64 0, Value.slice none 0 0]) 52 _ Try.zeroValue52 rfl HM ?_; clear HM; intro b4 W HM))
        | ((with_reducible refine s_ 7 ?_); go_must ((refine wl_len (dst := some 7) _ _ _ _ 23 Try.underlying40 rfl (hR.mem HM) ?_)))
        | ((with_reducible refine s_ 15 ?_); go_must ((refine wl_len (dst := some 15) _ _ _ _ 23 Try.underlying40 rfl (hR.mem HM) ?_)))
        | (go_at_call 70; go_must (((with_reducible refine (proof_c l n v _ (by omega) (by omega) (hR.mem HM)).mono ?_)); rintro e W ⟨u, rfl, HM'⟩; replace HM := HM.join HM'; clear HM'; simp only [List.cons_append, List.nil_append] at HM; have hu1 := row_one (HM.row m0))))
      refine ret2 rfl (by (exact res_row HM rfl m1 Try.underlying52 rfl sz52)) (res_tmp rfl) rfl ?_
      exact ⟨_, rfl, HM.only m0⟩
    · obtain ⟨h1, h2, h3, h4⟩ := pv_arg l i h hi
      rw [h1, h2, h3, h4]
      clear h1 h2 h3 h4
      by_cases hi0 : i < 0
      all_goals
        (try have hi2 : (l.length : Int) ≤ i := by omega)
        clear hi
        go_enter Try.func20, Try.ntmps20
        go_wp2_with (first
          | ((with_reducible refine gd_ _ ?_); refine wl_guard (by rfl) ?_)
          | ((with_reducible refine s_ 4 ?_); go_must (refine wl_alloc (dst := some 4) (cs := #[Value.int IntKind.i64 0, Value.int IntKind.i64 0, Value.slice none 0 0]) 52 _ Try.zeroValue52 rfl HM ?_; clear HM; intro b4 W HM))
          | ((with_reducible refine s_ 7 ?_); go_must ((refine wl_len (dst := some 7) _ _ _ _ 23 Try.underlying40 rfl (hR.mem HM) ?_)))
          | ((with_reducible refine s_ 15 ?_); go_must ((refine wl_len (dst := some 15) _ _ _ _ 23 Try.underlying40 rfl (hR.mem HM) ?_)))
          | ((with_reducible refine s_ 18 ?_); go_must (refine wl_build (dst := some 18) _ _ _ _ (run_build_prf0) rfl ?_))
          | ((with_reducible refine st_ 52 ?_); go_must ((refine wl_store_blk _ _ _ _ _ _ _ rfl rfl HM .here sz52 rfl (by simp [Value.oneCell']) ?_); clear HM; intro W HM)))
        refine ret2 rfl (by (exact res_row HM rfl m0 Try.underlying52 rfl sz52)) (res_tmp rfl) rfl ?_
        exact ⟨_, rfl, HM.base.nilrow _ _⟩
  · have hb : (128 : Int) < (l.length : Int) := by omega
    obtain ⟨h1, h2, h3, h4⟩ := pv_many l i h
    rw [h1, h2, h3, h4]
    clear h1 h2 h3 h4
    go_enter Try.func20, Try.ntmps20
    go_wp2_with (first
      | ((with_reducible refine s_ 4 ?_); go_must (refine wl_alloc (dst := some 4) (cs := #[Value.int IntKind.i64 0, Value.int IntKind.i64 0, Value.slice none 0 0]) 52 _ Try.zeroValue52 rfl HM ?_; clear HM; intro b4 W HM))
      | ((with_reducible refine s_ 7 ?_); go_must ((refine wl_len (dst := some 7) _ _ _ _ 23 Try.underlying40 rfl (hR.mem HM) ?_)))
      | ((with_reducible refine s_ 9 ?_); go_must (refine wl_build (dst := some 9) _ _ _ _ (run_build_prf0) rfl ?_))
      | ((with_reducible refine st_ 52 ?_); go_must ((refine wl_store_blk _ _ _ _ _ _ _ rfl rfl HM .here sz52 rfl (by simp [Value.oneCell']) ?_); clear HM; intro W HM)))
    refine ret2 rfl (by (exact res_row HM rfl m0 Try.underlying52 rfl sz52)) (res_tmp rfl) rfl ?_
    exact ⟨_, rfl, HM.base.nilrow _ _⟩
set_option maxHeartbeats 800000 in
theorem rProve_c (l : List Key) (i : Int) (v : Value) (w : World) (hR : RdL encK 16 w v l) :
    Calls Try.prog 21 #[v, .int .i64 i] w fun e w' => ∃ u, e = .returned (.tuple #[.agg #[.int .i64 (pvN l i), .int .i64 (pvI l i), u], .int .i64 (pvE l i)]) ∧ Mem w w' [.row u 23 16 (pvP l i).length ((pvP l i).flatMap encK)] := by
  have HM := Mem.start w
  by_cases h : l.length ≤ 128
  · have hb : ¬ (128 : Int) < (l.length : Int) := by omega
    by_cases hi : 0 ≤ i ∧ i < l.length
    · obtain ⟨h1, h2, h3, h4⟩ := pv_ok l i h hi.1 hi.2
      rw [h1, h2, h3, h4]
      clear h1 h2 h3 h4
      obtain ⟨n, rfl⟩ := Int.eq_ofNat_of_zero_le hi.1
      have hi1 : ¬ (n : Int) < 0 := by omega
      have hi2 : ¬ (l.length : Int) ≤ (n : Int) := by omega
      rw [Int.toNat_natCast]
      go_enter Try.func21, Try.ntmps21
      go_wp2_with (first
        | ((with_reducible refine gd_ _ ?_); refine wl_guard (by rfl) ?_)
        | ((with_reducible refine st_ 52 ?_); go_must (refine wl_store_blk _ _ _ _ _ _ _ rfl rfl HM (.there .here) sz52 rfl (prf_one _ _ _ hu1) ?_; clear HM; intro W HM))
        | ((with_reducible refine s_ 4 ?_); go_must (refine wl_alloc (dst := some 4) (cs := #[Value.int IntKind.i64 0, Value.int IntKind.i64 0, Value.slice none 0 0]) 52 _ Try.zeroValue52 rfl HM ?_; clear HM; intro b4 W HM))
        | ((with_reducible refine s_ 7 ?_); go_must ((refine wl_len (dst := some 7) _ _ _ _ 23 Try.underlying40 rfl (hR.mem HM) ?_)))
        | ((with_reducible refine s_ 15 ?_); go_must ((refine wl_len (dst := some 15) _ _ _ _ 23 Try.underlying40 rfl (hR.mem HM) ?_)))
        | (go_at_call 71; go_must (((with_reducible refine (rproofOf_c l n v _ (by omega) (by omega) (hR.mem HM)).mono ?_)); rintro e W ⟨u, rfl, HM'⟩; replace HM := HM.join HM'; clear HM'; simp only [List.cons_append, List.nil_append] at HM; have hu1 := row_one (HM.row m0))))
      refine ret2 rfl (by (exact res_row HM rfl m1 Try.underlying52 rfl sz52)) (res_tmp rfl) rfl ?_
      exact ⟨_, rfl, HM.only m0⟩
    · obtain ⟨h1, h2, h3, h4⟩ := pv_arg l i h hi
      rw [h1, h2, h3, h4]
      clear h1 h2 h3 h4
      by_cases hi0 : i < 0
      all_goals
        (try have hi2 : (l.length : Int) ≤ i := by omega)
        clear hi
        go_enter Try.func21, Try.ntmps21
        go_wp2_with (first
          | ((with_reducible refine gd_ _ ?_); refine wl_guard (by rfl) ?_)
          | ((with_reducible refine s_ 4 ?_); go_must (refine wl_alloc (dst := some 4) (cs := #[Value.int IntKind.i64 0, Value.int IntKind.i64 0, Value.slice none 0 0]) 52 _ Try.zeroValue52 rfl HM ?_; clear HM; intro b4 W HM))
          | ((with_reducible refine s_ 7 ?_); go_must ((refine wl_len (dst := some 7) _ _ _ _ 23 Try.underlying40 rfl (hR.mem HM) ?_)))
          | ((with_reducible refine s_ 15 ?_); go_must ((refine wl_len (dst := some 15) _ _ _ _ 23 Try.underlying40 rfl (hR.mem HM) ?_)))
          | ((with_reducible refine s_ 18 ?_); go_must (refine wl_build (dst := some 18) _ _ _ _ (run_build_prf0) rfl ?_))
          | ((with_reducible refine st_ 52 ?_); go_must ((refine wl_store_blk _ _ _ _ _ _ _ rfl rfl HM .here sz52 rfl (by simp [Value.oneCell']) ?_); clear HM; intro W HM)))
        refine ret2 rfl (by (exact res_row HM rfl m0 Try.underlying52 rfl sz52)) (res_tmp rfl) rfl ?_
        exact ⟨_, rfl, HM.base.nilrow _ _⟩
  · have hb : (128 : Int) < (l.length : Int) := by omega
    obtain ⟨h1, h2, h3, h4⟩ := pv_many l i h
    rw [h1, h2, h3, h4]
    clear h1 h2 h3 h4
    go_enter Try.func21, Try.ntmps21
    go_wp2_with (first
      | ((with_reducible refine s_ 4 ?_); go_must (refine wl_alloc (dst := some 4) (cs := #[Value.int IntKind.i64 0, Value.int IntKind.i64 0, Value.slice none 0 0]) 52 _ Try.zeroValue52 rfl HM ?_; clear HM; intro b4 W HM))
      | ((with_reducible refine s_ 7 ?_); go_must ((refine wl_len (dst := some 7) _ _ _ _ 23 Try.underlying40 rfl (hR.mem HM) ?_)))
      | ((with_reducible refine s_ 9 ?_); go_must (refine wl_build (dst := some 9) _ _ _ _ (run_build_prf0) rfl ?_))
      | ((with_reducible refine st_ 52 ?_); go_must ((refine wl_store_blk _ _ _ _ _ _ _ rfl rfl HM .here sz52 rfl (by simp [Value.oneCell']) ?_); clear HM; intro W HM)))
    refine ret2 rfl (by (exact res_row HM rfl m0 Try.underlying52 rfl sz52)) (res_tmp rfl) rfl ?_
    exact ⟨_, rfl, HM.base.nilrow _ _⟩

set_option maxHeartbeats 400000 in
/-- The same proof twice: true. -/
theorem sameProof_c (n i : Int) (v v' : Value) (l : List Key) (w : World) (hR : RdL encK 16 w v l) (hR' : RdL encK 16 w v' l) (hl : l.length ≤ 1073741824) :
    Calls Try.prog 22 #[.agg #[.int .i64 n, .int .i64 i, v], .agg #[.int .i64 n, .int .i64 i, v']] w fun e w' => e = .returned (.bool true) ∧ Mem w w' [] := by
  have HM := Mem.start w
  go_enter Try.func22, Try.ntmps22
  go_wp2_with (first
    | ((with_reducible refine gd_ _ ?_); refine wl_guard (by rfl) ?_)
    | ((with_reducible refine s_ 2 ?_); go_must (refine wl_box (dst := some 2) (cs := #[.int .i64 n, .int .i64 i, v]) _ _ _ rfl rfl HM ?_; clear HM; intro b2 W HM))
    | ((with_reducible refine s_ 3 ?_); go_must (refine wl_box (dst := some 3) (cs := #[.int .i64 n, .int .i64 i, v']) _ _ _ rfl rfl HM ?_; clear HM; intro b3 W HM))
    | ((with_reducible refine ld_ 3 ?_); go_must (refine wl_load_cell _ _ _ _ _ _ _ _ rfl HM (by repeat first | exact List.mem_cons_self .. | refine List.mem_cons_of_mem _ ?_) (by rfl) Try.underlying3 rfl ?_))
    | ((with_reducible refine ld_ 40 ?_); go_must (refine wl_load_cell _ _ _ _ _ _ _ _ rfl HM (by repeat first | exact List.mem_cons_self .. | refine List.mem_cons_of_mem _ ?_) (by rfl) Try.underlying40 rfl ?_))
    | (go_at_call 25; go_must (((with_reducible refine (sameKeys_c v v' l _ (hR.mem HM) (hR'.mem HM) (by omega)).mono ?_)); rintro e W ⟨rfl, HM'⟩; replace HM := HM.keep HM'.below; clear HM')))
  refine ret1 rfl (res_tmp rfl) rfl ?_
  exact ⟨rfl, HM.base⟩
end Go.Proofs.Ythdekionepfmdaa
