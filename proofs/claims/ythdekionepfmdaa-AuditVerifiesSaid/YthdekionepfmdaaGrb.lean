/- Growths: the program's and the reference's. -/
import Derived.Test.YthdekionepfmdaaGra
set_option linter.unusedVariables false
set_option linter.unusedSimpArgs false
set_option maxRecDepth 8000
namespace Go.Proofs.Ythdekionepfmdaa
open Go.RowKit

theorem run_build_grw (n i : Int) (u : Value) (hu : u.cells = #[u]) (w : World) : (Instr.build 59 #[(0, .int .i64 n), (1, .int .i64 i), (2, u)]).run Try.prog w = .ok (.agg #[.int .i64 n, .int .i64 i, u]) w := by
  simp [Instr.build, Try.zeroValue59, run_underlying Try.underlying59, Try.sizeOf3, Try.sizeOf40, Instr.fill, show ∀ cs, (Value.agg cs).cells = cs from fun _ => rfl, hu, show ∀ n, (Value.int .i64 n).cells = #[.int .i64 n] from fun _ => rfl]
theorem run_build_grw2 (n i : Int) (w : World) : (Instr.build 59 #[(0, .int .i64 n), (1, .int .i64 i)]).run Try.prog w = .ok (.agg #[.int .i64 n, .int .i64 i, .slice none 0 0]) w := by
  simp [Instr.build, Try.zeroValue59, run_underlying Try.underlying59, Try.sizeOf3, Try.sizeOf40, Instr.fill, show ∀ cs, (Value.agg cs).cells = cs from fun _ => rfl, show ∀ n, (Value.int .i64 n).cells = #[.int .i64 n] from fun _ => rfl]
theorem run_build_grw0 (w : World) : (Instr.build 59 #[]).run Try.prog w = .ok (.agg #[.int .i64 0, .int .i64 0, .slice none 0 0]) w := by
  simp [Instr.build, Try.zeroValue59, run_underlying Try.underlying59, Try.sizeOf3, Try.sizeOf40, Instr.fill, show ∀ cs, (Value.agg cs).cells = cs from fun _ => rfl]

def PartInv (l : List Key) (m : Nat) (l' : List Key) (m' : Nat) (wh : Bool) (acc : List Key) : Prop := partL l m true = partL l' m' wh ++ acc.reverse
theorem PartInv.start (l : List Key) (m : Nat) : PartInv l m l m true [] := by simp [PartInv]
theorem PartInv.lo {l l' acc : List Key} {m m' : Nat} {wh : Bool} (h : PartInv l m l' m' wh acc) (h1 : 1 ≤ m') (h2 : m' < l'.length) (hi : m' ≤ splitN l'.length) : PartInv l m (l'.take (splitN l'.length)) m' wh (acc ++ [rootL (l'.drop (splitN l'.length))]) := by
  rw [PartInv, h, partL_lo l' m' wh h1 h2 hi]; simp
theorem PartInv.hi {l l' acc : List Key} {m m' : Nat} {wh : Bool} (h : PartInv l m l' m' wh acc) (h1 : 1 ≤ m') (h2 : m' < l'.length) (hi : ¬ m' ≤ splitN l'.length) : PartInv l m (l'.drop (splitN l'.length)) (m' - splitN l'.length) false (acc ++ [rootL (l'.take (splitN l'.length))]) := by
  rw [PartInv, h, partL_hi l' m' wh h1 h2 hi]; simp
theorem PartInv.done {l l' acc : List Key} {m m' : Nat} (h : PartInv l m l' m' true acc) (h1 : l'.length ≤ m') : acc.reverse = partL l m true := by
  rw [h, partL_whole l' m' h1]; simp
theorem PartInv.done' {l l' acc : List Key} {m m' : Nat} (h : PartInv l m l' m' false acc) (h1 : l'.length ≤ m') : (acc ++ [rootL l']).reverse = partL l m true := by
  rw [h, partL_not l' m' h1]; simp

def gvE (l : List Key) (i : Int) : Int := if l.length ≤ 128 then (if 1 ≤ i ∧ i ≤ l.length then 0 else 2) else 4
def gvO (l : List Key) (i : Int) : Int := if gvE l i = 0 then i else 0
def gvN (l : List Key) (i : Int) : Int := if gvE l i = 0 then l.length else 0
def gvP (l : List Key) (i : Int) : List Key := if gvE l i = 0 then partL l i.toNat true else []
theorem gv_ok (l : List Key) (i : Int) (h : l.length ≤ 128) (h0 : 1 ≤ i) (hi : i ≤ l.length) : gvE l i = 0 ∧ gvO l i = i ∧ gvN l i = l.length ∧ gvP l i = partL l i.toNat true := by
  have : gvE l i = 0 := by rw [gvE, if_pos h, if_pos ⟨h0, hi⟩]
  refine ⟨this, ?_, ?_, ?_⟩ <;> simp only [gvN, gvO, gvP, if_pos this]
theorem gv_arg (l : List Key) (i : Int) (h : l.length ≤ 128) (hi : ¬ (1 ≤ i ∧ i ≤ l.length)) : gvE l i = 2 ∧ gvO l i = 0 ∧ gvN l i = 0 ∧ gvP l i = [] := by
  have : gvE l i = 2 := by rw [gvE, if_pos h, if_neg hi]
  refine ⟨this, ?_, ?_, ?_⟩ <;> simp [gvN, gvO, gvP, this]
theorem gv_many (l : List Key) (i : Int) (h : ¬ l.length ≤ 128) : gvE l i = 4 ∧ gvO l i = 0 ∧ gvN l i = 0 ∧ gvP l i = [] := by
  have : gvE l i = 4 := by rw [gvE, if_neg h]
  refine ⟨this, ?_, ?_, ?_⟩ <;> simp [gvN, gvO, gvP, this]

set_option maxHeartbeats 1600000 in
theorem growth_go (l : List Key) (m : Nat) (v : Value) (w : World) (hR : RdL encK 16 w v l) (hl : l.length ≤ 128) (h1 : 1 ≤ m) (hm : m ≤ l.length) :
    Calls Try.prog 23 #[v, .int .i64 (m : Int)] w fun e w' => ∃ u, e = .returned (.tuple #[.agg #[.int .i64 (m : Int), .int .i64 l.length, u], .int .i64 0]) ∧ Mem w w' [.row u 23 16 (partL l m true).length ((partL l m true).flatMap encK)] := by
  have HM := Mem.start w
  have hb1 : ¬ (128 : Int) < (l.length : Int) := by omega
  have hb2 : ¬ (m : Int) < 1 := by omega
  have hb3 : ¬ (l.length : Int) < (m : Int) := by omega
  go_enter Try.func23, Try.ntmps23
  go_wp2_with (first
    | ((with_reducible refine gd_ _ ?_); refine wl_guard (by rfl) ?_)
    | ((with_reducible refine s_ 4 ?_); go_must (refine wl_alloc (dst := some 4) (cs := #[Value.int IntKind.i64 0, Value.int IntKind.i64 0, Value.slice none 0 0]) 59 _ Try.zeroValue59 rfl HM ?_; clear HM; intro b4 W HM))
    | ((with_reducible refine s_ 10 ?_); go_must ((refine wl_len (dst := some 10) _ _ _ _ 23 Try.underlying40 rfl (hR.mem HM) ?_)))
    | ((with_reducible refine s_ 18 ?_); go_must ((refine wl_len (dst := some 18) _ _ _ _ 23 Try.underlying40 rfl (hR.mem HM) ?_)))
    | ((with_reducible refine s_ 24 ?_); go_must ((refine wl_len (dst := some 24) _ _ _ _ 23 Try.underlying40 rfl (hR.mem HM) ?_)))
    | ((with_reducible refine s_ 25 ?_); go_must (refine wl_build (dst := some 25) _ _ _ _ (run_build_grw2 _ _) rfl ?_))
    | ((with_reducible refine s_ 6 ?_); go_must (refine wl_alloc (dst := some 6) (cs := #[Value.int IntKind.i64 0, Value.int IntKind.i64 0, Value.slice none 0 0]) 59 _ Try.zeroValue59 rfl HM ?_; clear HM; intro b6 W HM))
    | ((with_reducible refine st_ 59 ?_); go_must ((refine wl_store_blk _ _ _ _ _ _ _ rfl rfl HM .here sz59 rfl (by simp [Value.oneCell']) ?_); clear HM; intro W HM)))
  go_loopw [0, 1, 7] (fun lv iv whv wr => ∃ (l' : List Key) (m' : Nat) (acc : List Key) (wh : Bool) (u : Value), 1 ≤ m' ∧ m' ≤ l'.length ∧ acc.length + l'.length ≤ l.length ∧ PartInv l m l' m' wh acc ∧ RdL encK 16 w lv l' ∧ iv = .int .i64 m' ∧ whv = .bool wh ∧
      Mem w wr [.row u 23 16 acc.length (acc.flatMap encK), .blk b6 #[.int .i64 (m : Int), .int .i64 l.length, u] 59, .blk b4 #[.int .i64 0, .int .i64 0, .slice none 0 0] 59])
    (fun lv _ _ _ => lenOf lv)
  case atStart => exact ⟨l, m, [], true, _, h1, hm, by simp, PartInv.start l m, hR, rfl, rfl, HM.nilrow _ _⟩
  case round =>
    clear HM
    obtain ⟨l', m', acc, wh, u, hm1, hm2, hlen, hP, hR', rfl, rfl, HM⟩ := hrel
    by_cases hlt : m' < l'.length
    · have hb : (m' : Int) < (l'.length : Int) := by omega
      have hs := splitN_lt l'.length (by omega)
      have e : (((splitN l'.length : Nat) : Int)).toNat = splitN l'.length := Int.toNat_natCast _
      have hi1 : (0 : Int) ≤ ((splitN l'.length : Nat) : Int) := by omega
      have hi2 : ((splitN l'.length : Nat) : Int) ≤ (l'.length : Int) := by omega
      by_cases hlo : m' ≤ splitN l'.length
      · have hb2 : (m' : Int) ≤ ((splitN l'.length : Nat) : Int) := by omega
        go_wp2_with (first
          | ((with_reducible refine s_ 28 ?_); go_must ((refine wl_len (dst := some 28) _ _ _ _ 23 Try.underlying40 rfl (hR'.mem HM) ?_)))
          | ((with_reducible refine s_ 31 ?_); go_must ((refine wl_len (dst := some 31) _ _ _ _ 23 Try.underlying40 rfl (hR'.mem HM) ?_)))
          | (go_at_call 72; go_must (((with_reducible refine (split_c _ (by omega) (by omega) _).mono ?_)); rintro e W ⟨rfl, HM'⟩; replace HM := HM.keep HM'.below; clear HM')))
        replace HM := HM.drew
        refine wp_region_mixN (fun W => Held w W [.blk b6 #[.int .i64 (m : Int), .int .i64 l.length, u] 59]) (fun W => Held w W []) (.cons (2, 0) (.cons (1, 1) (.cons (2, 2) (.cons (2, 3) (.cons (2, 4) (.cons (2, 8) (.cons (2, 9) (.cons (2, 10) (.cons (0, 5) (.cons (0, 6) (.cons (0, 7) (.cons (2, 11) (.cons (3, 12) (.cons (2, 13) .nil)))))))))))))) [12] (by kernel_rfl) (by kernel_rfl) (by kernel_rfl) (fun W h => Held.weak h (by simp)) (HM.held (by simp)) ?_
        revert HM; generalize World.drew _ = W; intro HM
        have HS1 : Held w W [.blk b6 #[.int .i64 (m : Int), .int .i64 l.length, u] 59] := HM.held (by simp)
        have HS2 : Held w W [] := HM.held (by simp)
        refine wm_q2 (i := 0) (v := ?v10_1) (some 36) rfl rfl rfl HS2 (fun W HS => ?y10_1) ?_
        case y10_1 => (go_simp; try with_reducible rfl)
        simp only [Act.put, List.getElem_toArray, List.getElem_cons_succ, List.getElem_cons_zero, List.setIfInBounds_toArray, List.set_cons_succ, List.set_cons_zero]
        refine wm_q1 (i := 1) (some 37) rfl rfl rfl HS1 (fun W HS => (by (exact ry_load_cell _ _ _ _ _ _ _ _ HS rfl m0 rfl Try.underlying40 rfl))) ?_
        simp only [Act.put, List.getElem_toArray, List.getElem_cons_succ, List.getElem_cons_zero, List.setIfInBounds_toArray, List.set_cons_succ, List.set_cons_zero]
        refine wm_q2 (i := 2) (v := ?v10_3) (some 38) rfl rfl rfl HS2 (fun W HS => ?y10_3) ?_
        case y10_3 => (go_simp; try with_reducible rfl)
        simp only [Act.put, List.getElem_toArray, List.getElem_cons_succ, List.getElem_cons_zero, List.setIfInBounds_toArray, List.set_cons_succ, List.set_cons_zero]
        refine wm_q2 (i := 3) (v := ?v10_4) (some 39) rfl rfl rfl HS2 (fun W HS => ?y10_4) ?_
        case y10_4 => (go_simp; try with_reducible rfl)
        simp only [Act.put, List.getElem_toArray, List.getElem_cons_succ, List.getElem_cons_zero, List.setIfInBounds_toArray, List.set_cons_succ, List.set_cons_zero]
        (refine wm_q2x (i := 4) (some 40) rfl rfl rfl HS2 (ry_slice_lo _ 23 _ _ _ _ _ _ encK_len Try.underlying40 sz23 (hR'.mem HM) rfl rfl (by omega) (by omega)) ?_); intro v40 hv40
        simp only [Act.put, List.getElem_toArray, List.getElem_cons_succ, List.getElem_cons_zero, List.setIfInBounds_toArray, List.set_cons_succ, List.set_cons_zero]
        refine wm_q2 (i := 8) (v := ?v10_5) (some 44) rfl rfl rfl HS2 (fun W HS => ?y10_5) ?_
        case y10_5 => (go_simp; try with_reducible rfl)
        simp only [Act.put, List.getElem_toArray, List.getElem_cons_succ, List.getElem_cons_zero, List.setIfInBounds_toArray, List.set_cons_succ, List.set_cons_zero]
        refine wm_q2 (i := 9) (v := ?v10_6) (some 45) rfl rfl rfl HS2 (fun W HS => ?y10_6) ?_
        case y10_6 => (go_simp; try with_reducible rfl)
        simp only [Act.put, List.getElem_toArray, List.getElem_cons_succ, List.getElem_cons_zero, List.setIfInBounds_toArray, List.set_cons_succ, List.set_cons_zero]
        (refine wm_q2x (i := 10) (some 46) rfl rfl rfl HS2 (ry_slice_hi _ 23 _ _ _ _ _ _ encK_len Try.underlying40 sz23 (hR'.mem HM) rfl rfl (by omega) (by omega)) ?_); intro v46 hv46
        simp only [Act.put, List.getElem_toArray, List.getElem_cons_succ, List.getElem_cons_zero, List.setIfInBounds_toArray, List.set_cons_succ, List.set_cons_zero]
        refine wm_e0 (i := 5) rfl ?_
        go_wp2_with (first
          | (go_at_call 61; go_must (((with_reducible refine (root_c _ _ _ (hv40 _ (hR'.mem HM)) (by rw [List.length_drop]; omega)).mono ?_)); rintro e W ⟨rfl, HM'⟩; replace HM := HM.keep HM'.below; clear HM')))
        refine ⟨HM.held (by simp), ?_⟩
        clear HS1 HS2
        have HS1 : Held w W [.blk b6 #[.int .i64 (m : Int), .int .i64 l.length, u] 59] := HM.held (by simp)
        have HS2 : Held w W [] := HM.held (by simp)
        refine wm_e0 (i := 6) rfl ?_
        go_wp2_with (first
          | ((with_reducible refine s_ 42 ?_); go_must ((refine wl_slice1K (dst := some 42) _ _ _ _ _ Try.underlying40 Try.sizeOf23 Try.zeroValue23 kc_zero rfl HM ?_; clear HM; intro b42 W HM))))
        refine ⟨HM.held (by simp), ?_⟩
        clear HS1 HS2
        have HS1 : Held w W [.blk b6 #[.int .i64 (m : Int), .int .i64 l.length, u] 59] := HM.held (by simp)
        have HS2 : Held w W [] := HM.held (by simp)
        refine wm_e0 (i := 7) rfl ?_
        go_wp2_with (first
          | ((with_reducible refine s_ 43 ?_); go_must (refine wl_append (dst := some 43) (enc := encK) _ _ _ _ _ _ _ _ _ _ _ ([rootL (l'.drop (splitN l'.length))]) Try.underlying40 inf23 rfl (by decide) encK_len encK_one HM (.there .here) (RdL.of_blk (HM.blk m0) _ 1 rfl (by simp [kc_toList]) (by decide)) rfl rfl (by decide) (by simp; omega) ?_; clear HM; intro v43 W HM; try dsimp only at HM)))
        refine ⟨HM.held (by simp), ?_⟩
        clear HS1 HS2
        have HS1 : Held w W [.blk b6 #[.int .i64 (m : Int), .int .i64 l.length, u] 59] := HM.held (by simp)
        have HS2 : Held w W [] := HM.held (by simp)
        refine wm_q2 (i := 11) (v := ?v10_7) (some 47) rfl rfl rfl HS2 (fun W HS => ?y10_7) ?_
        case y10_7 => (go_simp; try with_reducible rfl)
        simp only [Act.put, List.getElem_toArray, List.getElem_cons_succ, List.getElem_cons_zero, List.setIfInBounds_toArray, List.set_cons_succ, List.set_cons_zero]
        refine wm_e3 (i := 12) rfl ?_
        go_wp2_with (first
          | ((with_reducible refine stt_ 40 47 ?_); go_must (have hu1 := row_one (HM.row m1); refine wl_store_cell _ _ _ _ _ _ _ _ v43 rfl rfl HM (.there (.there .here)) sz40 hu1 (by simp) rfl ?_; clear HM hu1; intro W HM)))
        refine ⟨HM.held (by simp), ?_⟩
        clear HS1 HS2
        have HS1 : True := trivial
        have HS2 : Held w W [] := HM.held (by simp)
        refine wm_q2 (i := 13) (v := ?v10_8) (some 0) rfl rfl rfl HS2 (fun W HS => ?y10_8) ?_
        case y10_8 => (go_simp; try with_reducible rfl)
        simp only [Act.put, List.getElem_toArray, List.getElem_cons_succ, List.getElem_cons_zero, List.setIfInBounds_toArray, List.set_cons_succ, List.set_cons_zero]
        refine wm_nilN ?_
        clear HS1 HS2
        go_wp2_with (fail)
        have hP2 := hP.lo (by omega) (by omega) hlo
        have hv46' := hv46 _ hR'
        rw [flat_snoc'] at HM
        go_roundw
        case rel => exact ⟨_, m', _, wh, _, by omega, by rw [List.length_take]; omega, by rw [List.length_append, List.length_take]; simp; omega, hP2, hv46', rfl, rfl, by rw [List.length_append]; exact HM.tail⟩
        case measure =>
          rw [lenOf_rd hR', lenOf_rd hv46', List.length_take]; omega
      · have hb2 : ¬ (m' : Int) ≤ ((splitN l'.length : Nat) : Int) := by omega
        have hw : IntKind.i64.wrap ((m' : Int) - ((splitN l'.length : Nat) : Int)) = ((m' - splitN l'.length : Nat) : Int) := by rw [IntKind.wrap_i64]; omega
        go_wp2_with (first
          | ((with_reducible refine s_ 28 ?_); go_must ((refine wl_len (dst := some 28) _ _ _ _ 23 Try.underlying40 rfl (hR'.mem HM) ?_)))
          | ((with_reducible refine s_ 31 ?_); go_must ((refine wl_len (dst := some 31) _ _ _ _ 23 Try.underlying40 rfl (hR'.mem HM) ?_)))
          | (go_at_call 72; go_must (((with_reducible refine (split_c _ (by omega) (by omega) _).mono ?_)); rintro e W ⟨rfl, HM'⟩; replace HM := HM.keep HM'.below; clear HM')))
        replace HM := HM.drew
        refine wp_region_mixN (fun W => Held w W [.blk b6 #[.int .i64 (m : Int), .int .i64 l.length, u] 59]) (fun W => Held w W []) (.cons (2, 0) (.cons (1, 1) (.cons (2, 2) (.cons (2, 3) (.cons (2, 4) (.cons (2, 8) (.cons (2, 9) (.cons (2, 10) (.cons (2, 11) (.cons (2, 12) (.cons (2, 13) (.cons (0, 5) (.cons (0, 6) (.cons (0, 7) (.cons (2, 14) (.cons (3, 15) (.cons (2, 16) (.cons (2, 17) (.cons (2, 18) .nil))))))))))))))))))) [15] (by kernel_rfl) (by kernel_rfl) (by kernel_rfl) (fun W h => Held.weak h (by simp)) (HM.held (by simp)) ?_
        revert HM; generalize World.drew _ = W; intro HM
        have HS1 : Held w W [.blk b6 #[.int .i64 (m : Int), .int .i64 l.length, u] 59] := HM.held (by simp)
        have HS2 : Held w W [] := HM.held (by simp)
        refine wm_q2 (i := 0) (v := ?v11_9) (some 48) rfl rfl rfl HS2 (fun W HS => ?y11_9) ?_
        case y11_9 => (go_simp; try with_reducible rfl)
        simp only [Act.put, List.getElem_toArray, List.getElem_cons_succ, List.getElem_cons_zero, List.setIfInBounds_toArray, List.set_cons_succ, List.set_cons_zero]
        refine wm_q1 (i := 1) (some 49) rfl rfl rfl HS1 (fun W HS => (by (exact ry_load_cell _ _ _ _ _ _ _ _ HS rfl m0 rfl Try.underlying40 rfl))) ?_
        simp only [Act.put, List.getElem_toArray, List.getElem_cons_succ, List.getElem_cons_zero, List.setIfInBounds_toArray, List.set_cons_succ, List.set_cons_zero]
        refine wm_q2 (i := 2) (v := ?v11_11) (some 50) rfl rfl rfl HS2 (fun W HS => ?y11_11) ?_
        case y11_11 => (go_simp; try with_reducible rfl)
        simp only [Act.put, List.getElem_toArray, List.getElem_cons_succ, List.getElem_cons_zero, List.setIfInBounds_toArray, List.set_cons_succ, List.set_cons_zero]
        refine wm_q2 (i := 3) (v := ?v11_12) (some 51) rfl rfl rfl HS2 (fun W HS => ?y11_12) ?_
        case y11_12 => (go_simp; try with_reducible rfl)
        simp only [Act.put, List.getElem_toArray, List.getElem_cons_succ, List.getElem_cons_zero, List.setIfInBounds_toArray, List.set_cons_succ, List.set_cons_zero]
        (refine wm_q2x (i := 4) (some 52) rfl rfl rfl HS2 (ry_slice_hi _ 23 _ _ _ _ _ _ encK_len Try.underlying40 sz23 (hR'.mem HM) rfl rfl (by omega) (by omega)) ?_); intro v52 hv52
        simp only [Act.put, List.getElem_toArray, List.getElem_cons_succ, List.getElem_cons_zero, List.setIfInBounds_toArray, List.set_cons_succ, List.set_cons_zero]
        refine wm_q2 (i := 8) (v := ?v11_13) (some 56) rfl rfl rfl HS2 (fun W HS => ?y11_13) ?_
        case y11_13 => (go_simp; try with_reducible rfl)
        simp only [Act.put, List.getElem_toArray, List.getElem_cons_succ, List.getElem_cons_zero, List.setIfInBounds_toArray, List.set_cons_succ, List.set_cons_zero]
        refine wm_q2 (i := 9) (v := ?v11_14) (some 57) rfl rfl rfl HS2 (fun W HS => ?y11_14) ?_
        case y11_14 => (go_simp; try with_reducible rfl)
        simp only [Act.put, List.getElem_toArray, List.getElem_cons_succ, List.getElem_cons_zero, List.setIfInBounds_toArray, List.set_cons_succ, List.set_cons_zero]
        (refine wm_q2x (i := 10) (some 58) rfl rfl rfl HS2 (ry_slice_lo _ 23 _ _ _ _ _ _ encK_len Try.underlying40 sz23 (hR'.mem HM) rfl rfl (by omega) (by omega)) ?_); intro v58 hv58
        simp only [Act.put, List.getElem_toArray, List.getElem_cons_succ, List.getElem_cons_zero, List.setIfInBounds_toArray, List.set_cons_succ, List.set_cons_zero]
        refine wm_q2 (i := 11) (v := ?v11_15) (some 59) rfl rfl rfl HS2 (fun W HS => ?y11_15) ?_
        case y11_15 => (go_simp; try with_reducible rfl)
        simp only [Act.put, List.getElem_toArray, List.getElem_cons_succ, List.getElem_cons_zero, List.setIfInBounds_toArray, List.set_cons_succ, List.set_cons_zero]
        refine wm_q2 (i := 12) (v := ?v11_16) (some 60) rfl rfl rfl HS2 (fun W HS => ?y11_16) ?_
        case y11_16 => (go_simp; try with_reducible rfl)
        simp only [Act.put, List.getElem_toArray, List.getElem_cons_succ, List.getElem_cons_zero, List.setIfInBounds_toArray, List.set_cons_succ, List.set_cons_zero]
        refine wm_q2 (i := 13) (v := ?v11_17) (some 61) rfl rfl rfl HS2 (fun W HS => ?y11_17) ?_
        case y11_17 => (go_simp; try with_reducible rfl)
        simp only [Act.put, List.getElem_toArray, List.getElem_cons_succ, List.getElem_cons_zero, List.setIfInBounds_toArray, List.set_cons_succ, List.set_cons_zero]
        refine wm_e0 (i := 5) rfl ?_
        go_wp2_with (first
          | (go_at_call 61; go_must (((with_reducible refine (root_c _ _ _ (hv52 _ (hR'.mem HM)) (by rw [List.length_take]; omega)).mono ?_)); rintro e W ⟨rfl, HM'⟩; replace HM := HM.keep HM'.below; clear HM')))
        refine ⟨HM.held (by simp), ?_⟩
        clear HS1 HS2
        have HS1 : Held w W [.blk b6 #[.int .i64 (m : Int), .int .i64 l.length, u] 59] := HM.held (by simp)
        have HS2 : Held w W [] := HM.held (by simp)
        refine wm_e0 (i := 6) rfl ?_
        go_wp2_with (first
          | ((with_reducible refine s_ 54 ?_); go_must ((refine wl_slice1K (dst := some 54) _ _ _ _ _ Try.underlying40 Try.sizeOf23 Try.zeroValue23 kc_zero rfl HM ?_; clear HM; intro b54 W HM))))
        refine ⟨HM.held (by simp), ?_⟩
        clear HS1 HS2
        have HS1 : Held w W [.blk b6 #[.int .i64 (m : Int), .int .i64 l.length, u] 59] := HM.held (by simp)
        have HS2 : Held w W [] := HM.held (by simp)
        refine wm_e0 (i := 7) rfl ?_
        go_wp2_with (first
          | ((with_reducible refine s_ 55 ?_); go_must (refine wl_append (dst := some 55) (enc := encK) _ _ _ _ _ _ _ _ _ _ _ ([rootL (l'.take (splitN l'.length))]) Try.underlying40 inf23 rfl (by decide) encK_len encK_one HM (.there .here) (RdL.of_blk (HM.blk m0) _ 1 rfl (by simp [kc_toList]) (by decide)) rfl rfl (by decide) (by simp; omega) ?_; clear HM; intro v55 W HM; try dsimp only at HM)))
        refine ⟨HM.held (by simp), ?_⟩
        clear HS1 HS2
        have HS1 : Held w W [.blk b6 #[.int .i64 (m : Int), .int .i64 l.length, u] 59] := HM.held (by simp)
        have HS2 : Held w W [] := HM.held (by simp)
        refine wm_q2 (i := 14) (v := ?v11_18) (some 62) rfl rfl rfl HS2 (fun W HS => ?y11_18) ?_
        case y11_18 => (go_simp; try with_reducible rfl)
        simp only [Act.put, List.getElem_toArray, List.getElem_cons_succ, List.getElem_cons_zero, List.setIfInBounds_toArray, List.set_cons_succ, List.set_cons_zero]
        refine wm_e3 (i := 15) rfl ?_
        go_wp2_with (first
          | ((with_reducible refine stt_ 40 62 ?_); go_must (have hu1 := row_one (HM.row m1); refine wl_store_cell _ _ _ _ _ _ _ _ v55 rfl rfl HM (.there (.there .here)) sz40 hu1 (by simp) rfl ?_; clear HM hu1; intro W HM)))
        refine ⟨HM.held (by simp), ?_⟩
        clear HS1 HS2
        have HS1 : True := trivial
        have HS2 : Held w W [] := HM.held (by simp)
        refine wm_q2 (i := 16) (v := ?v11_19) (some 0) rfl rfl rfl HS2 (fun W HS => ?y11_19) ?_
        case y11_19 => (go_simp; try with_reducible rfl)
        simp only [Act.put, List.getElem_toArray, List.getElem_cons_succ, List.getElem_cons_zero, List.setIfInBounds_toArray, List.set_cons_succ, List.set_cons_zero]
        refine wm_q2 (i := 17) (v := ?v11_20) (some 1) rfl rfl rfl HS2 (fun W HS => ?y11_20) ?_
        case y11_20 => (go_simp; try with_reducible rfl)
        simp only [Act.put, List.getElem_toArray, List.getElem_cons_succ, List.getElem_cons_zero, List.setIfInBounds_toArray, List.set_cons_succ, List.set_cons_zero]
        refine wm_q2 (i := 18) (v := ?v11_21) (some 7) rfl rfl rfl HS2 (fun W HS => ?y11_21) ?_
        case y11_21 => (go_simp; try with_reducible rfl)
        simp only [Act.put, List.getElem_toArray, List.getElem_cons_succ, List.getElem_cons_zero, List.setIfInBounds_toArray, List.set_cons_succ, List.set_cons_zero]
        refine wm_nilN ?_
        clear HS1 HS2
        go_wp2_with (fail)
        have hP2 := hP.hi (by omega) (by omega) hlo
        have hv58' := hv58 _ hR'
        rw [flat_snoc'] at HM
        go_roundw
        case rel => exact ⟨_, m' - splitN l'.length, _, false, _, by omega, by rw [List.length_drop]; omega, by rw [List.length_append, List.length_drop]; simp; omega, hP2, hv58', rfl, rfl, by rw [List.length_append]; exact HM.tail⟩
        case measure =>
          rw [lenOf_rd hR', lenOf_rd hv58', List.length_drop]; omega
    · have hb : ¬ (m' : Int) < (l'.length : Int) := by omega
      cases wh with
      | true =>
        obtain ⟨accR, hacc⟩ : ∃ a, a = acc := ⟨_, rfl⟩
        subst hacc
        go_wp2_with (first
          | ((with_reducible refine stt_ 59 4 ?_); go_must (refine wl_store_blk _ _ _ _ _ _ _ rfl rfl HM (.there (.there .here)) sz59 rfl (prf_one _ _ _ (row_one (HM.row m0))) ?_; clear HM; intro W HM))
          | ((with_reducible refine s_ 28 ?_); go_must ((refine wl_len (dst := some 28) _ _ _ _ 23 Try.underlying40 rfl (hR'.mem HM) ?_)))
          | ((with_reducible refine ld_ 40 ?_); go_must (refine wl_load_cell _ _ _ _ _ _ _ _ rfl HM (by repeat first | exact List.mem_cons_self .. | refine List.mem_cons_of_mem _ ?_) (by rfl) Try.underlying40 rfl ?_))
          | ((with_reducible refine ld_ 59 ?_); go_must (refine wl_load_blk _ _ _ _ _ _ rfl HM (by repeat first | exact List.mem_cons_self .. | refine List.mem_cons_of_mem _ ?_) Try.underlying59 rfl (by exact sz59) ?_))
          | (go_at_call 73; go_must (((with_reducible refine (reverse_c w _ _ _ accR HM (by omega)).mono ?_)); rintro e W ⟨rfl, HM'⟩; clear HM; rename _ => HM)))
        refine ret2 rfl (by (exact res_row HM rfl m2 Try.underlying59 rfl sz59)) (res_tmp rfl) rfl ?_
        rw [← hP.done (by omega), List.length_reverse]
        exact ⟨_, rfl, HM.only m0⟩
      | false =>
        go_wp2_with (first
          | ((with_reducible refine s_ 28 ?_); go_must ((refine wl_len (dst := some 28) _ _ _ _ 23 Try.underlying40 rfl (hR'.mem HM) ?_))))
        replace HM := HM.drew
        refine wp_region_mixN (fun W => Held w W [.blk b6 #[.int .i64 (m : Int), .int .i64 l.length, u] 59]) (fun W => Held w W []) (.cons (2, 0) (.cons (1, 1) (.cons (2, 2) (.cons (0, 3) (.cons (0, 4) (.cons (0, 5) (.cons (2, 6) (.cons (3, 7) .nil)))))))) [7] (by kernel_rfl) (by kernel_rfl) (by kernel_rfl) (fun W h => Held.weak h (by simp)) (HM.held (by simp)) ?_
        revert HM; generalize World.drew _ = W; intro HM
        have HS1 : Held w W [.blk b6 #[.int .i64 (m : Int), .int .i64 l.length, u] 59] := HM.held (by simp)
        have HS2 : Held w W [] := HM.held (by simp)
        refine wm_q2 (i := 0) (v := ?v13_22) (some 65) rfl rfl rfl HS2 (fun W HS => ?y13_22) ?_
        case y13_22 => (go_simp; try with_reducible rfl)
        simp only [Act.put, List.getElem_toArray, List.getElem_cons_succ, List.getElem_cons_zero, List.setIfInBounds_toArray, List.set_cons_succ, List.set_cons_zero]
        refine wm_q1 (i := 1) (some 66) rfl rfl rfl HS1 (fun W HS => (by (exact ry_load_cell _ _ _ _ _ _ _ _ HS rfl m0 rfl Try.underlying40 rfl))) ?_
        simp only [Act.put, List.getElem_toArray, List.getElem_cons_succ, List.getElem_cons_zero, List.setIfInBounds_toArray, List.set_cons_succ, List.set_cons_zero]
        refine wm_q2 (i := 2) (v := ?v13_24) (some 67) rfl rfl rfl HS2 (fun W HS => ?y13_24) ?_
        case y13_24 => (go_simp; try with_reducible rfl)
        simp only [Act.put, List.getElem_toArray, List.getElem_cons_succ, List.getElem_cons_zero, List.setIfInBounds_toArray, List.set_cons_succ, List.set_cons_zero]
        refine wm_e0 (i := 3) rfl ?_
        go_wp2_with (first
          | (go_at_call 61; go_must (((with_reducible refine (root_c _ l' _ (hR'.mem HM) (by omega)).mono ?_)); rintro e W ⟨rfl, HM'⟩; replace HM := HM.keep HM'.below; clear HM')))
        refine ⟨HM.held (by simp), ?_⟩
        clear HS1 HS2
        have HS1 : Held w W [.blk b6 #[.int .i64 (m : Int), .int .i64 l.length, u] 59] := HM.held (by simp)
        have HS2 : Held w W [] := HM.held (by simp)
        refine wm_e0 (i := 4) rfl ?_
        go_wp2_with (first
          | ((with_reducible refine s_ 69 ?_); go_must ((refine wl_slice1K (dst := some 69) _ _ _ _ _ Try.underlying40 Try.sizeOf23 Try.zeroValue23 kc_zero rfl HM ?_; clear HM; intro b69 W HM))))
        refine ⟨HM.held (by simp), ?_⟩
        clear HS1 HS2
        have HS1 : Held w W [.blk b6 #[.int .i64 (m : Int), .int .i64 l.length, u] 59] := HM.held (by simp)
        have HS2 : Held w W [] := HM.held (by simp)
        refine wm_e0 (i := 5) rfl ?_
        go_wp2_with (first
          | ((with_reducible refine s_ 70 ?_); go_must (refine wl_append (dst := some 70) (enc := encK) _ _ _ _ _ _ _ _ _ _ _ ([rootL l']) Try.underlying40 inf23 rfl (by decide) encK_len encK_one HM (.there .here) (RdL.of_blk (HM.blk m0) _ 1 rfl (by simp [kc_toList]) (by decide)) rfl rfl (by decide) (by simp; omega) ?_; clear HM; intro v70 W HM; try dsimp only at HM)))
        refine ⟨HM.held (by simp), ?_⟩
        clear HS1 HS2
        have HS1 : Held w W [.blk b6 #[.int .i64 (m : Int), .int .i64 l.length, u] 59] := HM.held (by simp)
        have HS2 : Held w W [] := HM.held (by simp)
        refine wm_q2 (i := 6) (v := ?v13_25) (some 71) rfl rfl rfl HS2 (fun W HS => ?y13_25) ?_
        case y13_25 => (go_simp; try with_reducible rfl)
        simp only [Act.put, List.getElem_toArray, List.getElem_cons_succ, List.getElem_cons_zero, List.setIfInBounds_toArray, List.set_cons_succ, List.set_cons_zero]
        refine wm_e3 (i := 7) rfl ?_
        go_wp2_with (first
          | ((with_reducible refine stt_ 40 71 ?_); go_must (have hu1 := row_one (HM.row m1); refine wl_store_cell _ _ _ _ _ _ _ _ v70 rfl rfl HM (.there (.there .here)) sz40 hu1 (by simp) rfl ?_; clear HM hu1; intro W HM)))
        refine ⟨HM.held (by simp), ?_⟩
        clear HS1 HS2
        have HS1 : True := trivial
        have HS2 : Held w W [] := HM.held (by simp)
        refine wm_nilN ?_
        clear HS1 HS2
        obtain ⟨accR, hacc⟩ : ∃ a, a = acc ++ [rootL l'] := ⟨_, rfl⟩
        rw [flat_snoc', ← List.length_append, ← hacc] at HM
        replace HM := HM.tail
        have hal : accR.length ≤ 300 := by rw [hacc, List.length_append]; simp; omega
        have hP2 := hP.done' (by omega)
        rw [← hacc] at hP2
        have hP3 : PartInv l m [] 0 true accR := by rw [PartInv, partL_whole [] 0 (by simp), ← hP2]; simp
        clear hacc hP2
        go_wp2_with (first
          | ((with_reducible refine stt_ 59 4 ?_); go_must (refine wl_store_blk _ _ _ _ _ _ _ rfl rfl HM (.there (.there .here)) sz59 rfl (prf_one _ _ _ (row_one (HM.row m0))) ?_; clear HM; intro W HM))
          | ((with_reducible refine ld_ 40 ?_); go_must (refine wl_load_cell _ _ _ _ _ _ _ _ rfl HM (by repeat first | exact List.mem_cons_self .. | refine List.mem_cons_of_mem _ ?_) (by rfl) Try.underlying40 rfl ?_))
          | ((with_reducible refine ld_ 59 ?_); go_must (refine wl_load_blk _ _ _ _ _ _ rfl HM (by repeat first | exact List.mem_cons_self .. | refine List.mem_cons_of_mem _ ?_) Try.underlying59 rfl (by exact sz59) ?_))
          | (go_at_call 73; go_must (((with_reducible refine (reverse_c w _ _ _ accR HM (by omega)).mono ?_)); rintro e W ⟨rfl, HM'⟩; clear HM; rename _ => HM)))
        refine ret2 rfl (by (exact res_row HM rfl m2 Try.underlying59 rfl sz59)) (res_tmp rfl) rfl ?_
        rw [← hP3.done (by simp), List.length_reverse]
        exact ⟨_, rfl, HM.only m0⟩
end Go.Proofs.Ythdekionepfmdaa
