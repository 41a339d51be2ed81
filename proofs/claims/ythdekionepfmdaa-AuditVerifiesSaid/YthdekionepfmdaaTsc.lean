/- The texts of a list: the program's and the reference's; equal lists of texts. -/
import Derived.Test.YthdekionepfmdaaTsb
import Derived.Test.YthdekionepfmdaaCig
set_option linter.unusedVariables false
set_option linter.unusedSimpArgs false
set_option maxRecDepth 8000
namespace Go.Proofs.Ythdekionepfmdaa
open Go.RowKit

theorem Mem.nilT {w0 W : World} {x : It} {L : List It} (h : Mem w0 W (x :: L)) : Mem w0 W (x :: .row (.slice none 0 0) 24 1 ([] : List (Value × List UInt8)).length (valsT []) :: L) :=
  (h.nilrow 24 1).perm (List.Perm.swap _ _ _)
def txsT (l : List Key) : List (List UInt8) := if l.length ≤ 128 then textsL l else []
theorem txsT_ok (l : List Key) (h : l.length ≤ 128) : txsT l = textsL l := by rw [txsT, if_pos h]
theorem txsT_no (l : List Key) (h : ¬ l.length ≤ 128) : txsT l = [] := by rw [txsT, if_neg h]
theorem rtE_ok (l : List Key) (h : l.length ≤ 128) : rtE l = 0 := by rw [rtE, if_pos h]
theorem rtE_no (l : List Key) (h : ¬ l.length ≤ 128) : rtE l = 4 := by rw [rtE, if_neg h]
/-- Some texts, with where they lie. -/
def Given (w W : World) (v : Value) (ts : List (List UInt8)) : Prop := ∃ us R, TxIs us ts ∧ Tx us R ∧ Mem w W (.row v 24 1 us.length (valsT us) :: R)

theorem texts_one {w0 W : World} {L R : List It} {us : List (Value × List UInt8)} (h : Mem w0 W L) (hX : Tx us R) (hs : ∀ x ∈ R, x ∈ L) : ∀ p ∈ us.map (·.1), ∀ u ∈ encV p, u.oneCell' = true := by
  intro p hp
  obtain ⟨q, hq, rfl⟩ := List.mem_map.1 hp
  exact encV_one _ (text_one h (hs _ (hX q hq)))
section
attribute [local irreducible] rowT
set_option maxHeartbeats 800000 in
theorem Texts_c (v : Value) (l : List Key) (w : World) (hR : RdL encK 16 w v l) :
    Calls Try.prog 17 #[v] w fun e w' => ∃ u, e = .returned (.tuple #[u, .int .i64 (rtE l)]) ∧ Given w w' u (txsT l) := by
  have HM := Mem.start w
  by_cases h : l.length ≤ 128
  · have hb : ¬ (128 : Int) < (l.length : Int) := by omega
    rw [rtE_ok l h, txsT_ok l h]
    by_cases h0 : l.length = 0
    · have hb0 : (l.length : Int) = 0 := by omega
      go_enter Try.func17, Try.ntmps17
      go_wp2_with (first
        | ((with_reducible refine s_ 7 ?_); go_must ((refine wl_len (dst := some 7) _ _ _ _ 23 Try.underlying40 rfl (hR.mem HM) ?_)))
        | ((with_reducible refine s_ 11 ?_); go_must ((refine wl_len (dst := some 11) _ _ _ _ 23 Try.underlying40 rfl (hR.mem HM) ?_)))
        | ((with_reducible refine s_ 13 ?_); go_must (refine wl_buildSlice (dst := some 13) (cs := #[.slice none 0 0]) _ _ _ 24 1 _ Try.underlying45 Try.sizeOf24 Try.zeroValue24 (by decide) (by simp [Instr.fill, Act.eval, Act.put, Value.cells, undef, ← List.toArray_range, List.range_succ]) HM ?_; clear HM; intro b13 W HM; replace HM := HM.toRow 1 1 .here rfl (by simp [maxLen]))))
      refine ret2 rfl (res_tmp rfl) (res_tmp rfl) rfl ?_
      rw [textsL_nil l h0]
      exact ⟨_, rfl, [(.slice none 0 0, [])], [.row (.slice none 0 0) 5 1 0 []], TxIs.one _ _, Tx.one (by rw [rowT]; exact List.mem_cons_self ..), (HM.nilrow 5 1).perm (List.Perm.swap _ _ _)⟩
    · have hb0 : ¬ (l.length : Int) = 0 := by omega
      go_enter Try.func17, Try.ntmps17
      go_wp2_with (first
        | ((with_reducible refine s_ 7 ?_); go_must ((refine wl_len (dst := some 7) _ _ _ _ 23 Try.underlying40 rfl (hR.mem HM) ?_)))
        | ((with_reducible refine s_ 11 ?_); go_must ((refine wl_len (dst := some 11) _ _ _ _ 23 Try.underlying40 rfl (hR.mem HM) ?_)))
        | ((with_reducible refine s_ 4 ?_); go_must (refine wl_alloc (dst := some 4) (cs := #[Value.slice none 0 0]) 119 _ Try.zeroValue119 rfl HM ?_; clear HM; intro b4 W HM))
        | ((with_reducible refine ld_ 119 ?_); go_must (refine wl_load_cell _ _ _ _ _ _ _ _ rfl HM (by repeat first | exact List.mem_cons_self .. | refine List.mem_cons_of_mem _ ?_) (by rfl) Try.underlying119 rfl ?_))
        | (go_at_call 63; go_must (((with_reducible refine (foldT_c w b4 l.length l _ _ _ [] _ rfl (by omega) (by omega) (by simp; omega) hR HM.nilT).mono ?_)); rintro e W ⟨u, vs, R, rfl, hT, hX, HM'⟩; clear HM; rename _ => HM)))
      refine ret2 rfl (res_tmp rfl) (res_tmp rfl) rfl ?_
      exact ⟨u, rfl, vs, R, hT, hX, by simpa only [List.append_nil, List.nil_append] using HM.tail⟩
  · have hb : (128 : Int) < (l.length : Int) := by omega
    rw [rtE_no l h, txsT_no l h]
    go_enter Try.func17, Try.ntmps17
    go_wp2_with (first
      | ((with_reducible refine s_ 7 ?_); go_must ((refine wl_len (dst := some 7) _ _ _ _ 23 Try.underlying40 rfl (hR.mem HM) ?_))))
    refine ret2 rfl (res_tmp rfl) (res_tmp rfl) rfl ?_
    exact ⟨_, rfl, [], [], rfl, Tx.nil _, HM.nilrow _ _⟩

set_option maxHeartbeats 1600000 in
theorem rtextsOf_c : ∀ (n : Nat) (l : List Key) (v : Value) (w : World), l.length = n → n ≤ 256 → RdL encK 16 w v l →
    Calls Try.prog 69 #[v] w fun e w' => ∃ u, e = .returned u ∧ Given w w' u (textsL l) := by
  intro n
  induction n using Nat.strongRecOn with
  | ind n ih =>
    intro l v w hln hn hR
    subst hln
    have HM := Mem.start w
    by_cases h0 : l.length = 0
    · have hb : (l.length : Int) = 0 := by omega
      clear ih
      go_enter Try.func69, Try.ntmps69
      go_wp2_with (first
        | ((with_reducible refine s_ 6 ?_); go_must ((refine wl_len (dst := some 6) _ _ _ _ 23 Try.underlying40 rfl (hR.mem HM) ?_)))
        | ((with_reducible refine s_ 8 ?_); go_must (refine wl_empty (dst := some 8) _ _ _ Try.underlying24 Try.sizeOf5 HM ?_; clear HM; intro b8 W HM))
        | ((with_reducible refine s_ 9 ?_); go_must (refine wl_buildSlice (dst := some 9) (cs := #[.slice (some ⟨b8, 0, none⟩) 0 0]) _ _ _ 24 1 _ Try.underlying45 Try.sizeOf24 Try.zeroValue24 (by decide) (by simp [Instr.fill, Act.eval, Act.put, Value.cells, undef, ← List.toArray_range, List.range_succ]) HM ?_; clear HM; intro b9 W HM; replace HM := HM.toRow 1 1 .here rfl (by simp [maxLen]))))
      refine ret1 rfl (res_tmp rfl) rfl ?_
      rw [textsL_nil l h0]
      exact ⟨_, rfl, [(.slice (some ⟨b8, 0, none⟩) 0 0, [])], _, TxIs.one _ _, Tx.one (by rw [rowT]; exact List.mem_cons_self ..), HM⟩
    · have hb0 : ¬ (l.length : Int) = 0 := by omega
      by_cases hone : l.length = 1
      · have hb : (l.length : Int) = 1 := by omega
        have hx : l[(0 : Int).toNat]? = some (l[0]'(by omega)) := List.getElem?_eq_getElem (by omega)
        clear ih
        go_enter Try.func69, Try.ntmps69
        go_wp2_with (first
          | ((with_reducible refine s_ 6 ?_); go_must ((refine wl_len (dst := some 6) _ _ _ _ 23 Try.underlying40 rfl (hR.mem HM) ?_)))
          | ((with_reducible refine s_ 11 ?_); go_must ((refine wl_len (dst := some 11) _ _ _ _ 23 Try.underlying40 rfl (hR.mem HM) ?_)))
          | ((with_reducible refine s_ 14 ?_); go_must ((refine wl_index (dst := some 14) _ 23 _ _ _ _ _ _ _ encK_len Try.underlying40 sz23 rfl rfl (hR.mem HM) (by omega) (by first | assumption | simp [*]) ?_); intro p14 hp14))
          | ((with_reducible refine s_ 15 ?_); go_must (refine wl_load_key (dst := some 15) _ _ _ _ rfl hp14 Try.underlying23 sz23 ?_))
          | ((with_reducible refine s_ 17 ?_); go_must ((refine wl_slice1V (dst := some 17) _ _ _ p Try.underlying45 Try.sizeOf24 Try.zeroValue24 (text_cells HM m0) rfl HM ?_; clear HM; intro b17 W HM; replace HM := HM.toRow 1 1 .here rfl (by simp [maxLen]))))
          | (go_at_call 126; go_must (((with_reducible refine (rleafTextT _ _).mono ?_)); rintro e W ⟨p, rfl, HM'⟩; replace HM := HM.join HM'; clear HM'; simp only [List.cons_append, List.nil_append] at HM)))
        refine ret1 rfl (res_tmp rfl) rfl ?_
        rw [textsL_one l hone]
        exact ⟨_, rfl, [(p, _)], _, TxIs.one _ _, Tx.one m0, HM⟩
      · have hb : ¬ (l.length : Int) = 1 := by omega
        have hs := splitN_lt l.length (by omega)
        have e : (((splitN l.length : Nat) : Int)).toNat = splitN l.length := Int.toNat_natCast _
        have hi1 : (0 : Int) ≤ ((splitN l.length : Nat) : Int) := by omega
        have hi2 : ((splitN l.length : Nat) : Int) ≤ (l.length : Int) := by omega
        go_enter Try.func69, Try.ntmps69
        go_wp2_with (first
          | ((with_reducible refine s_ 6 ?_); go_must ((refine wl_len (dst := some 6) _ _ _ _ 23 Try.underlying40 rfl (hR.mem HM) ?_)))
          | ((with_reducible refine s_ 11 ?_); go_must ((refine wl_len (dst := some 11) _ _ _ _ 23 Try.underlying40 rfl (hR.mem HM) ?_)))
          | ((with_reducible refine s_ 19 ?_); go_must ((refine wl_len (dst := some 19) _ _ _ _ 23 Try.underlying40 rfl (hR.mem HM) ?_)))
          | (go_at_call 127; go_must (((with_reducible refine (rsplit_c _ (by omega) (by omega) _).mono ?_)); rintro e W ⟨rfl, HM'⟩; replace HM := HM.keep HM'.below; clear HM')))
        replace HM := HM.drew
        refine wp_region_mixN (fun W => Held w W []) (fun W => Held w W []) (.cons (2, 0) (.cons (2, 1) (.cons (2, 2) (.cons (2, 4) (.cons (2, 5) (.cons (2, 6) (.cons (0, 3) (.cons (0, 7) (.cons (0, 8) (.cons (2, 9) .nil)))))))))) [] (by kernel_rfl) (by kernel_rfl) (by kernel_rfl) (fun W h => Held.weak h (by simp)) (HM.held (by simp)) ?_
        revert HM; generalize World.drew _ = W; intro HM
        have HS1 : Held w W [] := HM.held (by simp)
        have HS2 : Held w W [] := HM.held (by simp)
        refine wm_q2 (i := 0) (v := ?v6_1) (some 21) rfl rfl rfl HS2 (fun W HS => ?y6_1) ?_
        case y6_1 => (go_simp; try with_reducible rfl)
        simp only [Act.put, List.getElem_toArray, List.getElem_cons_succ, List.getElem_cons_zero, List.setIfInBounds_toArray, List.set_cons_succ, List.set_cons_zero]
        refine wm_q2 (i := 1) (v := ?v6_2) (some 22) rfl rfl rfl HS2 (fun W HS => ?y6_2) ?_
        case y6_2 => (go_simp; try with_reducible rfl)
        simp only [Act.put, List.getElem_toArray, List.getElem_cons_succ, List.getElem_cons_zero, List.setIfInBounds_toArray, List.set_cons_succ, List.set_cons_zero]
        (refine wm_q2x (i := 2) (some 23) rfl rfl rfl HS2 (ry_slice_hi _ 23 _ _ _ _ _ _ encK_len Try.underlying40 sz23 (hR.mem HM) rfl rfl (by omega) (by omega)) ?_); intro v23 hv23
        simp only [Act.put, List.getElem_toArray, List.getElem_cons_succ, List.getElem_cons_zero, List.setIfInBounds_toArray, List.set_cons_succ, List.set_cons_zero]
        refine wm_q2 (i := 4) (v := ?v6_3) (some 25) rfl rfl rfl HS2 (fun W HS => ?y6_3) ?_
        case y6_3 => (go_simp; try with_reducible rfl)
        simp only [Act.put, List.getElem_toArray, List.getElem_cons_succ, List.getElem_cons_zero, List.setIfInBounds_toArray, List.set_cons_succ, List.set_cons_zero]
        refine wm_q2 (i := 5) (v := ?v6_4) (some 26) rfl rfl rfl HS2 (fun W HS => ?y6_4) ?_
        case y6_4 => (go_simp; try with_reducible rfl)
        simp only [Act.put, List.getElem_toArray, List.getElem_cons_succ, List.getElem_cons_zero, List.setIfInBounds_toArray, List.set_cons_succ, List.set_cons_zero]
        (refine wm_q2x (i := 6) (some 27) rfl rfl rfl HS2 (ry_slice_lo _ 23 _ _ _ _ _ _ encK_len Try.underlying40 sz23 (hR.mem HM) rfl rfl (by omega) (by omega)) ?_); intro v27 hv27
        simp only [Act.put, List.getElem_toArray, List.getElem_cons_succ, List.getElem_cons_zero, List.setIfInBounds_toArray, List.set_cons_succ, List.set_cons_zero]
        refine wm_e0 (i := 3) rfl ?_
        go_wp2_with (first
          | (go_at_call 69; go_must (first | ((with_reducible refine (ih (splitN l.length) (by omega) _ _ _ (by rw [List.length_take]; omega) (by omega) (hv23 _ (hR.mem HM))).mono ?_); rintro e W ⟨u2, rfl, us2, R2, hT2, hX2, HM'⟩; replace HM := HM.join HM'; clear HM'; simp only [List.cons_append, List.nil_append] at HM; have hz2 := txl_take hT2 hs) | ((with_reducible refine (ih (l.length - splitN l.length) (by omega) _ _ _ (by rw [List.length_drop]; omega) (by omega) (hv27 _ (hR.mem HM))).mono ?_); rintro e W ⟨u3, rfl, us3, R3, hT3, hX3, HM'⟩; replace HM := HM.join HM'; clear HM'; simp only [List.cons_append, List.nil_append] at HM; replace HM := HM.sink; have hz3 := txl_drop hT3 hs))))
        refine ⟨HM.held (by simp), ?_⟩
        clear HS1 HS2
        have HS1 : Held w W [] := HM.held (by simp)
        have HS2 : Held w W [] := HM.held (by simp)
        refine wm_e0 (i := 7) rfl ?_
        go_wp2_with (first
          | (go_at_call 69; go_must (first | ((with_reducible refine (ih (splitN l.length) (by omega) _ _ _ (by rw [List.length_take]; omega) (by omega) (hv23 _ (hR.mem HM))).mono ?_); rintro e W ⟨u2, rfl, us2, R2, hT2, hX2, HM'⟩; replace HM := HM.join HM'; clear HM'; simp only [List.cons_append, List.nil_append] at HM; have hz2 := txl_take hT2 hs) | ((with_reducible refine (ih (l.length - splitN l.length) (by omega) _ _ _ (by rw [List.length_drop]; omega) (by omega) (hv27 _ (hR.mem HM))).mono ?_); rintro e W ⟨u3, rfl, us3, R3, hT3, hX3, HM'⟩; replace HM := HM.join HM'; clear HM'; simp only [List.cons_append, List.nil_append] at HM; replace HM := HM.sink; have hz3 := txl_drop hT3 hs))))
        refine ⟨HM.held (by simp), ?_⟩
        clear HS1 HS2
        have HS1 : Held w W [] := HM.held (by simp)
        have HS2 : Held w W [] := HM.held (by simp)
        refine wm_e0 (i := 8) rfl ?_
        go_wp2_with (first
          | ((with_reducible refine s_ 29 ?_); go_must ((refine wl_appendM (dst := some 29) (enc := encV) _ _ _ _ _ _ _ _ _ _ _ (us3.map (·.1)) Try.underlying45 inf24 rfl (by decide) encV_len (texts_one HM hX3 (fun x hx => List.mem_cons_of_mem _ (List.mem_cons_of_mem _ (List.mem_append_left _ hx)))) HM (.there .here) (rd_row HM m0 rfl (by decide) encV_len) rfl rfl (by decide) (by simp; omega) ?_; clear HM; intro v29 W HM; try dsimp only at HM))))
        refine ⟨HM.held (by simp), ?_⟩
        clear HS1 HS2
        have HS1 : Held w W [] := HM.held (by simp)
        have HS2 : Held w W [] := HM.held (by simp)
        refine wm_q2 (i := 9) (v := ?v6_5) (some 4) rfl rfl rfl HS2 (fun W HS => ?y6_5) ?_
        case y6_5 => (go_simp; try with_reducible rfl)
        simp only [Act.put, List.getElem_toArray, List.getElem_cons_succ, List.getElem_cons_zero, List.setIfInBounds_toArray, List.set_cons_succ, List.set_cons_zero]
        refine wm_nilN ?_
        clear HS1 HS2
        go_wp2_with (fail)
        replace HM := HM.drew
        refine wp_region_mixN (fun W => Held w W []) (fun W => Held w W []) (.cons (2, 0) (.cons (2, 1) (.cons (2, 2) (.cons (2, 3) (.cons (2, 5) (.cons (2, 6) (.cons (2, 7) (.cons (0, 4) (.cons (0, 8) (.cons (0, 9) (.cons (0, 10) (.cons (0, 11) (.cons (2, 12) .nil))))))))))))) [] (by kernel_rfl) (by kernel_rfl) (by kernel_rfl) (fun W h => Held.weak h (by simp)) (HM.held (by simp)) ?_
        revert HM; generalize World.drew _ = W; intro HM
        have HS1 : Held w W [] := HM.held (by simp)
        have HS2 : Held w W [] := HM.held (by simp)
        refine wm_q2 (i := 0) (v := ?v7_6) (some 30) rfl rfl rfl HS2 (fun W HS => ?y7_6) ?_
        case y7_6 => (go_simp; try with_reducible rfl)
        simp only [Act.put, List.getElem_toArray, List.getElem_cons_succ, List.getElem_cons_zero, List.setIfInBounds_toArray, List.set_cons_succ, List.set_cons_zero]
        refine wm_q2 (i := 1) (v := ?v7_7) (some 31) rfl rfl rfl HS2 (fun W HS => ?y7_7) ?_
        case y7_7 => (go_simp; try with_reducible rfl)
        simp only [Act.put, List.getElem_toArray, List.getElem_cons_succ, List.getElem_cons_zero, List.setIfInBounds_toArray, List.set_cons_succ, List.set_cons_zero]
        refine wm_q2 (i := 2) (v := ?v7_8) (some 32) rfl rfl rfl HS2 (fun W HS => ?y7_8) ?_
        case y7_8 => (go_simp; try with_reducible rfl)
        simp only [Act.put, List.getElem_toArray, List.getElem_cons_succ, List.getElem_cons_zero, List.setIfInBounds_toArray, List.set_cons_succ, List.set_cons_zero]
        (refine wm_q2x (i := 3) (some 33) rfl rfl rfl HS2 (ry_slice_hi _ 23 _ _ _ _ _ _ encK_len Try.underlying40 sz23 (hR.mem HM) rfl rfl (by omega) (by omega)) ?_); intro v33 hv33
        simp only [Act.put, List.getElem_toArray, List.getElem_cons_succ, List.getElem_cons_zero, List.setIfInBounds_toArray, List.set_cons_succ, List.set_cons_zero]
        refine wm_q2 (i := 5) (v := ?v7_9) (some 35) rfl rfl rfl HS2 (fun W HS => ?y7_9) ?_
        case y7_9 => (go_simp; try with_reducible rfl)
        simp only [Act.put, List.getElem_toArray, List.getElem_cons_succ, List.getElem_cons_zero, List.setIfInBounds_toArray, List.set_cons_succ, List.set_cons_zero]
        refine wm_q2 (i := 6) (v := ?v7_10) (some 36) rfl rfl rfl HS2 (fun W HS => ?y7_10) ?_
        case y7_10 => (go_simp; try with_reducible rfl)
        simp only [Act.put, List.getElem_toArray, List.getElem_cons_succ, List.getElem_cons_zero, List.setIfInBounds_toArray, List.set_cons_succ, List.set_cons_zero]
        (refine wm_q2x (i := 7) (some 37) rfl rfl rfl HS2 (ry_slice_lo _ 23 _ _ _ _ _ _ encK_len Try.underlying40 sz23 (hR.mem HM) rfl rfl (by omega) (by omega)) ?_); intro v37 hv37
        simp only [Act.put, List.getElem_toArray, List.getElem_cons_succ, List.getElem_cons_zero, List.setIfInBounds_toArray, List.set_cons_succ, List.set_cons_zero]
        refine wm_e0 (i := 4) rfl ?_
        go_wp2_with (first
          | (go_at_call 62; go_must (((with_reducible refine (rrootOf_c (splitN l.length) _ _ _ (by rw [List.length_take]; omega) (by omega) (hv33 _ (hR.mem HM))).mono ?_)); rintro e W ⟨rfl, HM'⟩; replace HM := HM.keep HM'.below; clear HM')))
        refine ⟨HM.held (by simp), ?_⟩
        clear HS1 HS2
        have HS1 : Held w W [] := HM.held (by simp)
        have HS2 : Held w W [] := HM.held (by simp)
        refine wm_e0 (i := 8) rfl ?_
        go_wp2_with (first
          | (go_at_call 62; go_must (((with_reducible refine (rrootOf_c (l.length - splitN l.length) _ _ _ (by rw [List.length_drop]; omega) (by omega) (hv37 _ (hR.mem HM))).mono ?_)); rintro e W ⟨rfl, HM'⟩; replace HM := HM.keep HM'.below; clear HM')))
        refine ⟨HM.held (by simp), ?_⟩
        clear HS1 HS2
        have HS1 : Held w W [] := HM.held (by simp)
        have HS2 : Held w W [] := HM.held (by simp)
        refine wm_e0 (i := 9) rfl ?_
        go_wp2_with (first
          | (go_at_call 128; go_must (((with_reducible refine (rnodeTextT _ _ _).mono ?_)); rintro e W ⟨p, rfl, HM'⟩; replace HM := HM.join HM'; clear HM'; simp only [List.cons_append, List.nil_append] at HM)))
        refine ⟨HM.held (by simp), ?_⟩
        clear HS1 HS2
        have HS1 : Held w W [] := HM.held (by simp)
        have HS2 : Held w W [] := HM.held (by simp)
        refine wm_e0 (i := 10) rfl ?_
        go_wp2_with (first
          | ((with_reducible refine s_ 40 ?_); go_must ((refine wl_slice1V (dst := some 40) _ _ _ p Try.underlying45 Try.sizeOf24 Try.zeroValue24 (text_cells HM m0) rfl HM ?_; clear HM; intro b40 W HM))))
        refine ⟨HM.held (by simp), ?_⟩
        clear HS1 HS2
        have HS1 : Held w W [] := HM.held (by simp)
        have HS2 : Held w W [] := HM.held (by simp)
        refine wm_e0 (i := 11) rfl ?_
        go_wp2_with (first
          | ((with_reducible refine s_ 41 ?_); go_must ((refine wl_appendM (dst := some 41) (enc := encV) _ _ _ _ _ _ _ _ _ _ _ [p] Try.underlying45 inf24 rfl (by decide) encV_len (by intro y hy; rw [List.mem_singleton.1 hy]; exact encV_one p (text_one HM m1)) HM (.there (.there (.there .here))) (RdL.of_blk (HM.blk m0) _ 1 rfl (by simp [encV]) (by decide)) rfl rfl (by decide) (by simp; omega) ?_; clear HM; intro v41 W HM; try dsimp only at HM))))
        refine ⟨HM.held (by simp), ?_⟩
        clear HS1 HS2
        have HS1 : Held w W [] := HM.held (by simp)
        have HS2 : Held w W [] := HM.held (by simp)
        refine wm_q2 (i := 12) (v := ?v7_11) (some 2) rfl rfl rfl HS2 (fun W HS => ?y7_11) ?_
        case y7_11 => (go_simp; try with_reducible rfl)
        simp only [Act.put, List.getElem_toArray, List.getElem_cons_succ, List.getElem_cons_zero, List.setIfInBounds_toArray, List.set_cons_succ, List.set_cons_zero]
        refine wm_nilN ?_
        clear HS1 HS2
        go_wp2_with (fail)
        refine ret1 rfl (res_tmp rfl) rfl ?_
        have H := HM.tail.rot1.tail
        rw [valsT_app, valsT_snoc _ _ (textNode (rootL (l.take (splitN l.length))) (rootL (l.drop (splitN l.length)))), show us2.length + (us3.map (·.1)).length + [p].length = (us2 ++ us3 ++ [(p, textNode (rootL (l.take (splitN l.length))) (rootL (l.drop (splitN l.length))))]).length by simp; omega, List.append_nil] at H
        rw [textsL_two l (by omega)]
        exact ⟨_, rfl, _, _, (hT2.app hT3).app (TxIs.one p _), ((Tx.inr [rowT _] (Tx.inr R3 hX2)).app (Tx.inr [rowT _] (Tx.inl R2 hX3))).app (Tx.one m0), H⟩

theorem rTexts_c (v : Value) (l : List Key) (w : World) (hR : RdL encK 16 w v l) :
    Calls Try.prog 18 #[v] w fun e w' => ∃ u, e = .returned (.tuple #[u, .int .i64 (rtE l)]) ∧ Given w w' u (txsT l) := by
  have HM := Mem.start w
  by_cases h : l.length ≤ 128
  · have hb : ¬ (128 : Int) < (l.length : Int) := by omega
    rw [rtE_ok l h, txsT_ok l h]
    go_enter Try.func18, Try.ntmps18
    go_wp2_with (first
      | ((with_reducible refine s_ 5 ?_); go_must ((refine wl_len (dst := some 5) _ _ _ _ 23 Try.underlying40 rfl (hR.mem HM) ?_)))
      | (go_at_call 69; go_must (((with_reducible refine (rtextsOf_c l.length l _ _ rfl (by omega) (hR.mem HM)).mono ?_)); rintro e W ⟨u, rfl, us, R, hT, hX, HM'⟩; replace HM := HM.join HM'; clear HM'; simp only [List.cons_append, List.nil_append] at HM)))
    refine ret2 rfl (res_tmp rfl) (res_tmp rfl) rfl ?_
    exact ⟨u, rfl, us, R, hT, hX, by simpa only [List.append_nil] using HM⟩
  · have hb : (128 : Int) < (l.length : Int) := by omega
    rw [rtE_no l h, txsT_no l h]
    go_enter Try.func18, Try.ntmps18
    go_wp2_with (first
      | ((with_reducible refine s_ 5 ?_); go_must ((refine wl_len (dst := some 5) _ _ _ _ 23 Try.underlying40 rfl (hR.mem HM) ?_))))
    refine ret2 rfl (res_tmp rfl) (res_tmp rfl) rfl ?_
    exact ⟨_, rfl, [], [], rfl, Tx.nil _, HM.nilrow _ _⟩

/-- The same texts twice: true. -/
theorem sameTexts_c (v v' : Value) (us us' : List (Value × List UInt8)) (ts : List (List UInt8)) (w : World) (hT : TxIs us ts) (hT' : TxIs us' ts) (hV : RdL encV 1 w v (us.map (·.1))) (hV' : RdL encV 1 w v' (us'.map (·.1)))
    (hU : ∀ p ∈ us, RdL encB 1 w p.1 p.2) (hU' : ∀ p ∈ us', RdL encB 1 w p.1 p.2) (hl : ts.length ≤ 1073741824) :
    Calls Try.prog 19 #[v, v'] w fun e w' => e = .returned (.bool true) ∧ Mem w w' [] := by
  have HM := Mem.start w
  have hn := hT.len
  have hn' := hT'.len
  have hvl : (us.map (·.1)).length = ts.length := by rw [List.length_map, hn]
  have hvl' : (us'.map (·.1)).length = ts.length := by rw [List.length_map, hn']
  go_enter Try.func19, Try.ntmps19
  go_wp2_with (first
    | ((with_reducible refine s_ 7 ?_); go_must ((refine wl_len (dst := some 7) _ _ _ _ 24 Try.underlying45 rfl (hV.mem HM) ?_)))
    | ((with_reducible refine s_ 9 ?_); go_must ((refine wl_len (dst := some 9) _ _ _ _ 24 Try.underlying45 rfl (hV'.mem HM) ?_))))
  go_loopw [5] (fun c wr => ∃ i : Nat, i ≤ ts.length ∧ c = .int .i64 i ∧ Mem w wr [])
    (fun c _ => ts.length - (intOf c).toNat)
  case atStart => exact ⟨0, by omega, rfl, HM⟩
  case round =>
    clear HM
    obtain ⟨i, hi, rfl, HM⟩ := hrel
    by_cases hlt : i < ts.length
    · have hb : (i : Int) < (ts.length : Int) := by omega
      obtain ⟨p1, hp1e⟩ : ∃ p, us[i]? = some p := ⟨_, List.getElem?_eq_getElem (by omega)⟩
      obtain ⟨p2, hp2e⟩ : ∃ p, us'[i]? = some p := ⟨_, List.getElem?_eq_getElem (by omega)⟩
      have hx1 : (us.map (·.1))[i]? = some p1.1 := by rw [List.getElem?_map, hp1e]; rfl
      have hx2 : (us'.map (·.1))[i]? = some p2.1 := by rw [List.getElem?_map, hp2e]; rfl
      have hp1 := hU p1 (List.mem_of_getElem? hp1e)
      have hp2 := hU' p2 (List.mem_of_getElem? hp2e)
      have hq : p1.2 = p2.2 := by
        have e1 : ts[i]? = some p1.2 := by rw [← show us.map (·.2) = ts from hT, List.getElem?_map, hp1e]; rfl
        have e2 : ts[i]? = some p2.2 := by rw [← show us'.map (·.2) = ts from hT', List.getElem?_map, hp2e]; rfl
        rw [e1] at e2; injection e2
      rw [← hq] at hp2
      obtain ⟨q, hq1⟩ : ∃ q, q = p1.2 := ⟨_, rfl⟩
      rw [← hq1] at hp1 hp2
      have hb2 : i < us.length := by omega
      clear hq hq1 hp1e hp2e hn hn' hvl hvl'
      go_wp2_with (first
        | ((with_reducible refine s_ 13 ?_); go_must ((refine wl_len (dst := some 13) _ _ _ _ 24 Try.underlying45 rfl (hV.mem HM) ?_))))
      replace HM := HM.drew
      refine wp_region_mixN (fun W => Held w W []) (fun W => Held w W []) (.cons (2, 0) (.cons (2, 1) (.cons (2, 2) (.cons (2, 3) (.cons (2, 4) (.cons (2, 5) (.cons (2, 6) (.cons (2, 7) (.cons (2, 8) (.cons (2, 9) (.cons (2, 10) .nil))))))))))) [] (by kernel_rfl) (by kernel_rfl) (by kernel_rfl) (fun W h => Held.weak h (by simp)) (HM.held (by simp)) ?_
      revert HM; generalize World.drew _ = W; intro HM
      have HS1 : Held w W [] := HM.held (by simp)
      have HS2 : Held w W [] := HM.held (by simp)
      refine wm_q2 (i := 0) (v := ?v6_1) (some 17) rfl rfl rfl HS2 (fun W HS => ?y6_1) ?_
      case y6_1 => (go_simp; try with_reducible rfl)
      simp only [Act.put, List.getElem_toArray, List.getElem_cons_succ, List.getElem_cons_zero, List.setIfInBounds_toArray, List.set_cons_succ, List.set_cons_zero]
      refine wm_q2 (i := 1) (v := ?v6_2) (some 18) rfl rfl rfl HS2 (fun W HS => ?y6_2) ?_
      case y6_2 => (go_simp; try with_reducible rfl)
      simp only [Act.put, List.getElem_toArray, List.getElem_cons_succ, List.getElem_cons_zero, List.setIfInBounds_toArray, List.set_cons_succ, List.set_cons_zero]
      (refine wm_q2x (i := 2) (some 19) rfl rfl rfl HS2 (ry_index _ 24 _ _ _ _ _ _ _ (fun W => Held w W []) W encV_len Try.underlying45 sz24 HS2 (fun W HS => hV.held HS) rfl rfl (by omega) (by first | assumption | simp [*])) ?_); intro p19 hp19
      simp only [Act.put, List.getElem_toArray, List.getElem_cons_succ, List.getElem_cons_zero, List.setIfInBounds_toArray, List.set_cons_succ, List.set_cons_zero]
      refine wm_q2 (i := 3) (some 20) rfl rfl rfl HS2 (fun W HS => (by refine ry_load_at1 _ _ _ _ _ ?_ (hp19 W HS) Try.underlying24 rfl; rfl)) ?_
      simp only [Act.put, List.getElem_toArray, List.getElem_cons_succ, List.getElem_cons_zero, List.setIfInBounds_toArray, List.set_cons_succ, List.set_cons_zero]
      refine wm_q2 (i := 4) (some 21) rfl rfl rfl HS2 (fun W HS => (by refine ry_str _ _ _ _ _ (q) Try.underlying24 Try.underlying5 Try.underlying9 (hp1.held HS) ?_; rfl)) ?_
      simp only [Act.put, List.getElem_toArray, List.getElem_cons_succ, List.getElem_cons_zero, List.setIfInBounds_toArray, List.set_cons_succ, List.set_cons_zero]
      refine wm_q2 (i := 5) (v := ?v6_5) (some 22) rfl rfl rfl HS2 (fun W HS => ?y6_5) ?_
      case y6_5 => (go_simp; try with_reducible rfl)
      simp only [Act.put, List.getElem_toArray, List.getElem_cons_succ, List.getElem_cons_zero, List.setIfInBounds_toArray, List.set_cons_succ, List.set_cons_zero]
      refine wm_q2 (i := 6) (v := ?v6_6) (some 23) rfl rfl rfl HS2 (fun W HS => ?y6_6) ?_
      case y6_6 => (go_simp; try with_reducible rfl)
      simp only [Act.put, List.getElem_toArray, List.getElem_cons_succ, List.getElem_cons_zero, List.setIfInBounds_toArray, List.set_cons_succ, List.set_cons_zero]
      (refine wm_q2x (i := 7) (some 24) rfl rfl rfl HS2 (ry_index _ 24 _ _ _ _ _ _ _ (fun W => Held w W []) W encV_len Try.underlying45 sz24 HS2 (fun W HS => hV'.held HS) rfl rfl (by omega) (by first | assumption | simp [*])) ?_); intro p24 hp24
      simp only [Act.put, List.getElem_toArray, List.getElem_cons_succ, List.getElem_cons_zero, List.setIfInBounds_toArray, List.set_cons_succ, List.set_cons_zero]
      refine wm_q2 (i := 8) (some 25) rfl rfl rfl HS2 (fun W HS => (by refine ry_load_at1 _ _ _ _ _ ?_ (hp24 W HS) Try.underlying24 rfl; rfl)) ?_
      simp only [Act.put, List.getElem_toArray, List.getElem_cons_succ, List.getElem_cons_zero, List.setIfInBounds_toArray, List.set_cons_succ, List.set_cons_zero]
      refine wm_q2 (i := 9) (some 26) rfl rfl rfl HS2 (fun W HS => (by refine ry_str _ _ _ _ _ (q) Try.underlying24 Try.underlying5 Try.underlying9 (hp2.held HS) ?_; rfl)) ?_
      simp only [Act.put, List.getElem_toArray, List.getElem_cons_succ, List.getElem_cons_zero, List.setIfInBounds_toArray, List.set_cons_succ, List.set_cons_zero]
      refine wm_q2 (i := 10) (v := ?v6_9) (some 27) rfl rfl rfl HS2 (fun W HS => ?y6_9) ?_
      case y6_9 => (go_simp; try with_reducible rfl)
      simp only [Act.put, List.getElem_toArray, List.getElem_cons_succ, List.getElem_cons_zero, List.setIfInBounds_toArray, List.set_cons_succ, List.set_cons_zero]
      refine wm_nilN ?_
      clear HS1 HS2
      go_wp2_with (fail)
      go_roundw
      case rel => exact ⟨i + 1, by omega, by go_num, HM⟩
      case measure => simp [intOf]; omega
    · have hb : ¬ i < us.length := by omega
      clear hn hn' hvl hvl'
      go_wp2_with (first
        | ((with_reducible refine s_ 13 ?_); go_must ((refine wl_len (dst := some 13) _ _ _ _ 24 Try.underlying45 rfl (hV.mem HM) ?_))))
      refine ret1 rfl (res_tmp rfl) rfl ?_
      exact ⟨rfl, HM⟩
end
end Go.Proofs.Ythdekionepfmdaa
