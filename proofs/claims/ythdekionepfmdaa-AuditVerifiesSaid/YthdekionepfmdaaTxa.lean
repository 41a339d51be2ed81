/- The texts of leaves and nodes. -/
import Derived.Test.YthdekionepfmdaaSpl
set_option linter.unusedVariables false
set_option linter.unusedSimpArgs false
set_option maxRecDepth 8000
namespace Go.Proofs.Ythdekionepfmdaa
open Go.RowKit

def textLeaf (k : Key) : List UInt8 := 0 :: k.toList
def textNode (a b : Key) : List UInt8 := 1 :: (a.toList ++ b.toList)
theorem textLeaf_len (k : Key) : (textLeaf k).length = 17 := by simp [textLeaf]
theorem textNode_len (a b : Key) : (textNode a b).length = 33 := by simp [textNode]
theorem rd_whole {W w0 : World} {L : List It} {b : Nat} {k : Key} {t : TypeId} (hM : Mem w0 W L) (hk : It.blk b (kc k) t ∈ L) : RdL encB 1 W (.slice (some ⟨b, 0, none⟩) 16 16) k.toList := by
  have := rd_part hM hk 0 16 16 (by omega) (by omega) (by decide)
  rwa [show (k.toList.drop 0).take 16 = k.toList from List.take_of_length_le (by simp)] at this

set_option maxHeartbeats 400000 in
theorem leafText_c (k : Key) (w : World) :
    Calls Try.prog 66 #[.agg (kc k)] w fun e w' => ∃ v, e = .returned v ∧ Mem w w' [.row v 5 1 17 ((textLeaf k).flatMap encB)] := by
  have HM := Mem.start w
  go_enter Try.func66, Try.ntmps66
  go_wp2_with (first
    | ((with_reducible refine s_ 1 ?_); go_must (refine wl_box (dst := some 1) (cs := kc k) _ _ _ rfl rfl HM ?_; clear HM; intro b1 W HM))
    | ((with_reducible refine s_ 3 ?_); go_must (refine wl_buildSlice (dst := some 3) (cs := #[.int .u8 0]) _ _ _ 5 1 _ Try.underlying24 Try.sizeOf5 Try.zeroValue5 (by decide) (by simp [Instr.fill, Act.eval, Act.put, Value.cells, undef, ← List.toArray_range, List.range_succ]) HM ?_; clear HM; intro b3 W HM; replace HM := HM.toRow 1 1 .here rfl (by simp [maxLen])))
    | ((with_reducible refine s_ 5 ?_); go_must (refine wl_append (dst := some 5) (enc := encB) _ _ _ _ _ _ _ _ _ _ _ (k.toList) Try.underlying24 inf5 rfl (by decide) encB_len encB_one HM .here (rd_whole HM m1) rfl rfl (by decide) (by simp) ?_; clear HM; intro v5 W HM; try dsimp only at HM)))
  refine ret1 rfl (res_tmp rfl) rfl ?_
  have e : 1 + k.toList.length = 17 := by simp
  rw [e] at HM
  exact ⟨_, rfl, HM.only m0⟩

set_option maxHeartbeats 400000 in
theorem rleafText_c (k : Key) (w : World) :
    Calls Try.prog 126 #[.agg (kc k)] w fun e w' => ∃ v, e = .returned v ∧ Mem w w' [.row v 5 1 17 ((textLeaf k).flatMap encB)] := by
  have HM := Mem.start w
  go_enter Try.func126, Try.ntmps126
  go_wp2_with (first
    | ((with_reducible refine s_ 1 ?_); go_must (refine wl_box (dst := some 1) (cs := kc k) _ _ _ rfl rfl HM ?_; clear HM; intro b1 W HM))
    | ((with_reducible refine s_ 3 ?_); go_must (refine wl_buildSlice (dst := some 3) (cs := #[.int .u8 0]) _ _ _ 5 1 _ Try.underlying24 Try.sizeOf5 Try.zeroValue5 (by decide) (by simp [Instr.fill, Act.eval, Act.put, Value.cells, undef, ← List.toArray_range, List.range_succ]) HM ?_; clear HM; intro b3 W HM; replace HM := HM.toRow 1 1 .here rfl (by simp [maxLen])))
    | ((with_reducible refine s_ 5 ?_); go_must (refine wl_append (dst := some 5) (enc := encB) _ _ _ _ _ _ _ _ _ _ _ (k.toList) Try.underlying24 inf5 rfl (by decide) encB_len encB_one HM .here (rd_whole HM m1) rfl rfl (by decide) (by simp) ?_; clear HM; intro v5 W HM; try dsimp only at HM)))
  refine ret1 rfl (res_tmp rfl) rfl ?_
  have e : 1 + k.toList.length = 17 := by simp
  rw [e] at HM
  exact ⟨_, rfl, HM.only m0⟩

set_option maxHeartbeats 400000 in
theorem rnodeText_c (a b : Key) (w : World) :
    Calls Try.prog 128 #[.agg (kc a), .agg (kc b)] w fun e w' => ∃ v, e = .returned v ∧ Mem w w' [.row v 5 1 33 ((textNode a b).flatMap encB)] := by
  have HM := Mem.start w
  go_enter Try.func128, Try.ntmps128
  go_wp2_with (first
    | ((with_reducible refine s_ 2 ?_); go_must (refine wl_box (dst := some 2) (cs := kc a) _ _ _ rfl rfl HM ?_; clear HM; intro b2 W HM))
    | ((with_reducible refine s_ 3 ?_); go_must (refine wl_box (dst := some 3) (cs := kc b) _ _ _ rfl rfl HM ?_; clear HM; intro b3 W HM))
    | ((with_reducible refine s_ 6 ?_); go_must (refine wl_buildSlice (dst := some 6) (cs := #[.int .u8 1]) _ _ _ 5 1 _ Try.underlying24 Try.sizeOf5 Try.zeroValue5 (by decide) (by simp [Instr.fill, Act.eval, Act.put, Value.cells, undef, ← List.toArray_range, List.range_succ]) HM ?_; clear HM; intro b6 W HM; replace HM := HM.toRow 1 1 .here rfl (by simp [maxLen])))
    | ((with_reducible refine s_ 8 ?_); go_must (refine wl_append (dst := some 8) (enc := encB) _ _ _ _ _ _ _ _ _ _ _ (a.toList) Try.underlying24 inf5 rfl (by decide) encB_len encB_one HM .here (rd_whole HM m2) rfl rfl (by decide) (by simp) ?_; clear HM; intro v8 W HM; try dsimp only at HM))
    | ((with_reducible refine s_ 11 ?_); go_must (refine wl_append (dst := some 11) (enc := encB) _ _ _ _ _ _ _ _ _ _ _ (b.toList) Try.underlying24 inf5 rfl (by decide) encB_len encB_one HM .here (rd_whole HM m1) rfl rfl (by decide) (by simp) ?_; clear HM; intro v11 W HM; try dsimp only at HM)))
  refine ret1 rfl (res_tmp rfl) rfl ?_
  have e : 1 + a.toList.length + b.toList.length = 33 := by simp
  have e2 : #[Value.int .u8 1].toList ++ List.flatMap encB a.toList ++ List.flatMap encB b.toList = (textNode a b).flatMap encB := by simp [textNode, encB]
  rw [e, e2] at HM
  exact ⟨_, rfl, HM.only m0⟩

set_option maxHeartbeats 400000 in
theorem grow0_c (n : Nat) (hn : n ≤ 1048576) (w : World) :
    Calls Try.prog 150 #[.slice none 0 0, .int .i64 (n : Int)] w fun e w' => ∃ u, e = .returned u ∧ Mem w w' [.row u 5 1 0 []] := by
  have HM := Mem.start w
  by_cases h0 : n = 0
  · subst h0
    rw [show ((0 : Nat) : Int) = 0 from rfl]
    go_enter Try.func150, Try.ntmps150
    go_wp2_with (fail)
    refine ret1 rfl (res_tmp rfl) rfl ?_
    exact ⟨_, rfl, HM.nilrow _ _⟩
  · have h1 : (0 : Int) < (n : Int) := by omega
    have h2 : ¬ (n : Int) < 0 := by omega
    go_enter Try.func150, Try.ntmps150
    go_wp2_with (first
      | ((with_reducible refine s_ 22 ?_); go_must ((refine wl_append_zeros (dst := some 22) _ _ _ _ _ _ _ _ _ _ _ Try.underlying24 Try.underlying3 inf5 rfl (by decide) rfl rfl (by omega) (by decide) (by omega) HM ?_; clear HM; intro b22 cap xs W hc1 hc2 HM)))
      | ((with_reducible refine s_ 25 ?_); go_must ((refine wl_row_hi (dst := some 25) _ _ _ _ _ _ _ _ _ _ _ Try.underlying24 sz5 rfl rfl HM .here (by omega) (by omega) ?_; clear HM; intro HM))))
    refine ret1 rfl (res_tmp rfl) rfl ?_
    exact ⟨_, rfl, by simpa using HM⟩

/-! ### slices.Concat -/
def encV (v : Value) : List Value := [v]
theorem encV_len (v : Value) : (encV v).length = 1 := rfl
/-- What the first i parts come to. -/
def catTo (us : List (Value × List UInt8)) (i : Nat) : List UInt8 := (us.take i).flatMap (·.2)
theorem catTo_zero (us : List (Value × List UInt8)) : catTo us 0 = [] := rfl
theorem catTo_succ (us : List (Value × List UInt8)) (i : Nat) (p : Value × List UInt8) (h : us[i]? = some p) : catTo us (i + 1) = catTo us i ++ p.2 := by
  have hi : i < us.length := (List.getElem?_eq_some_iff.1 h).1
  have he : us[i] = p := (List.getElem?_eq_some_iff.1 h).2
  rw [catTo, List.take_succ_eq_append_getElem hi, List.flatMap_append, he, catTo]; simp
theorem catTo_len (us : List (Value × List UInt8)) (i : Nat) : (catTo us i).length ≤ (catTo us us.length).length := by
  have h : catTo us us.length = catTo us i ++ (us.drop i).flatMap (·.2) := by
    rw [catTo, List.take_length, catTo, ← List.flatMap_append, List.take_append_drop]
  rw [h, List.length_append]; omega

set_option maxHeartbeats 800000 in
theorem concat_c (v : Value) (us : List (Value × List UInt8)) (w : World) (hV : RdL encV 1 w v (us.map (·.1))) (hU : ∀ p ∈ us, RdL encB 1 w p.1 p.2) (hl : (catTo us us.length).length ≤ 1048576) (hn : us.length ≤ 1000) :
    Calls Try.prog 129 #[v] w fun e w' => ∃ u, e = .returned u ∧ Mem w w' [.row u 5 1 (catTo us us.length).length ((catTo us us.length).flatMap encB)] := by
  have HM := Mem.start w
  have hvl : (us.map (·.1)).length = us.length := by simp
  go_enter Try.func129, Try.ntmps129
  go_wp2_with (first
    | ((with_reducible refine s_ 10 ?_); go_must ((refine wl_len (dst := some 10) _ _ _ _ 24 Try.underlying45 rfl (hV) ?_))))
  go_loopw [3, 5, 11] (fun s q c wr => ∃ i : Nat, i ≤ us.length ∧ c = .int .i64 i ∧ s = .int .i64 ((catTo us i).length : Nat) ∧ Mem w wr [])
    (fun _ _ c _ => us.length - (intOf c).toNat)
  case atStart => exact ⟨0, by omega, rfl, rfl, HM⟩
  case round =>
    clear HM
    obtain ⟨i, hi, rfl, rfl, HM⟩ := hrel
    by_cases hlt : i < us.length
    · have hb1 : (i : Int) < (us.length : Int) := by omega
      obtain ⟨p, hpe⟩ : ∃ p, us[i]? = some p := ⟨_, List.getElem?_eq_getElem hlt⟩
      have hx : (us.map (·.1))[i]? = some p.1 := by rw [List.getElem?_map, hpe]; rfl
      have hp := hU p (List.mem_of_getElem? hpe)
      have hcs := catTo_succ us i p hpe
      have hle := catTo_len us (i + 1)
      have hcl : (catTo us (i + 1)).length = (catTo us i).length + p.2.length := by rw [hcs, List.length_append]
      have hw : IntKind.i64.wrap (((catTo us i).length : Int) + (p.2.length : Int)) = ((catTo us i).length : Int) + (p.2.length : Int) := by rw [IntKind.wrap_i64]; omega
      have hnn : ¬ ((catTo us i).length : Int) + (p.2.length : Int) < 0 := by omega
      clear hcs
      go_wp2_with (first
        | ((with_reducible refine s_ 13 ?_); go_must ((refine wl_index (dst := some 13) _ 24 _ _ _ _ _ _ _ encV_len Try.underlying45 sz24 rfl rfl (hV.mem HM) (by omega) (by first | assumption | simp [*]) ?_); intro p13 hp13))
        | ((with_reducible refine s_ 14 ?_); go_must (refine wl_load_at1 (dst := some 14) _ _ _ _ _ rfl hp13 Try.underlying24 rfl ?_))
        | ((with_reducible refine s_ 17 ?_); go_must ((refine wl_len (dst := some 17) _ _ _ _ 5 Try.underlying24 rfl (hp) ?_))))
      go_roundw
      case rel => exact ⟨i + 1, by omega, by go_num, by rw [hcl, Int.natCast_add], HM⟩
      case measure => simp [intOf]; omega
    · obtain rfl : i = us.length := by omega
      go_wp2_with (first
        | ((with_reducible refine s_ 26 ?_); go_must ((refine wl_len (dst := some 26) _ _ _ _ 24 Try.underlying45 rfl (hV) ?_)))
        | (go_at_call 150; go_must (((with_reducible refine (grow0_c _ hl _).mono ?_)); rintro e W ⟨u6, rfl, HM'⟩; replace HM := HM.join HM'; clear HM'; simp only [List.cons_append, List.nil_append] at HM)))
      go_loopw [6, 8, 27] (fun o q c wr => ∃ i : Nat, i ≤ us.length ∧ c = .int .i64 i ∧ Mem w wr [.row o 5 1 (catTo us i).length ((catTo us i).flatMap encB)])
        (fun _ _ c _ => us.length - (intOf c).toNat)
      case atStart => exact ⟨0, by omega, rfl, HM⟩
      case round =>
        clear HM
        obtain ⟨i, hi, rfl, HM⟩ := hrel
        by_cases hlt2 : i < us.length
        · have hb1 : (i : Int) < (us.length : Int) := by omega
          obtain ⟨p, hpe⟩ : ∃ p, us[i]? = some p := ⟨_, List.getElem?_eq_getElem hlt2⟩
          have hx : (us.map (·.1))[i]? = some p.1 := by rw [List.getElem?_map, hpe]; rfl
          have hp := hU p (List.mem_of_getElem? hpe)
          have hcs := catTo_succ us i p hpe
          have hle := catTo_len us (i + 1)
          have hcl : (catTo us (i + 1)).length = (catTo us i).length + p.2.length := by rw [hcs, List.length_append]
          clear hcs
          go_wp2_with (first
            | ((with_reducible refine s_ 29 ?_); go_must ((refine wl_index (dst := some 29) _ 24 _ _ _ _ _ _ _ encV_len Try.underlying45 sz24 rfl rfl (hV.mem HM) (by omega) (by first | assumption | simp [*]) ?_); intro p29 hp29))
            | ((with_reducible refine s_ 30 ?_); go_must (refine wl_load_at1 (dst := some 30) _ _ _ _ _ rfl hp29 Try.underlying24 rfl ?_))
            | ((with_reducible refine s_ 33 ?_); go_must (refine wl_append (dst := some 33) (enc := encB) _ _ _ _ _ _ _ _ _ _ _ (p.2) Try.underlying24 inf5 rfl (by decide) encB_len encB_one HM .here (hp.mem HM) rfl rfl (by decide) (by omega) ?_; clear HM; intro v33 W HM; try dsimp only at HM)))
          rw [flat_snoc', ← catTo_succ us i p hpe, ← hcl] at HM
          go_roundw
          case rel => exact ⟨i + 1, by omega, by go_num, HM⟩
          case measure => simp [intOf]; omega
        · obtain rfl : i = us.length := by omega
          go_wp2_with (fail)
          refine ret1 rfl (res_tmp rfl) rfl ?_
          exact ⟨_, rfl, HM⟩
end Go.Proofs.Ythdekionepfmdaa
