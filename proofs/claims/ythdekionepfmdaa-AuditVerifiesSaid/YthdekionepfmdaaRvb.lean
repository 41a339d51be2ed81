/- slices.Reverse of keys, in a row of the caller's. -/
import Derived.Test.YthdekionepfmdaaRva
set_option linter.unusedVariables false
set_option linter.unusedSimpArgs false
set_option maxRecDepth 8000
namespace Go.Proofs.Ythdekionepfmdaa
open Go.RowKit

/-- l with its first i and last i turned round. -/
def turnL (l : List Key) (i : Nat) : List Key := (List.range l.length).map fun k => if k < i ∨ l.length - 1 - k < i then l.getD (l.length - 1 - k) zeroKey else l.getD k zeroKey
theorem turnL_len (l : List Key) (i : Nat) : (turnL l i).length = l.length := by simp [turnL]
theorem turnL_at (l : List Key) (i k : Nat) (hk : k < l.length) : (turnL l i)[k]? = some (if k < i ∨ l.length - 1 - k < i then l.getD (l.length - 1 - k) zeroKey else l.getD k zeroKey) := by
  simp [turnL, hk]
theorem turnL_0 (l : List Key) : turnL l 0 = l := by
  apply List.ext_getElem?
  intro k
  by_cases hk : k < l.length
  · rw [turnL_at l 0 k hk]
    simp [hk]
  · rw [List.getElem?_eq_none (by rw [turnL_len]; omega), List.getElem?_eq_none (by omega)]
theorem turnL_end (l : List Key) (i : Nat) (h : l.length ≤ 2 * i + 1) : turnL l i = l.reverse := by
  apply List.ext_getElem?
  intro k
  by_cases hk : k < l.length
  · rw [turnL_at l i k hk, List.getElem?_reverse hk]
    have h1 : l.length - 1 - k < l.length := by omega
    by_cases hc : k < i ∨ l.length - 1 - k < i
    · rw [if_pos hc]; simp [h1]
    · have : l.length - 1 - k = k := by omega
      rw [if_neg hc, this]; simp [hk]
  · rw [List.getElem?_eq_none (by rw [turnL_len]; omega), List.getElem?_eq_none (by rw [List.length_reverse]; omega)]
theorem turnL_step (l : List Key) (i : Nat) (h : 2 * i + 1 < l.length) : ((turnL l i).set i (l.getD (l.length - 1 - i) zeroKey)).set (l.length - 1 - i) (l.getD i zeroKey) = turnL l (i + 1) := by
  apply List.ext_getElem?
  intro k
  by_cases hk : k < l.length
  · rw [turnL_at l (i + 1) k hk, List.getElem?_set, List.getElem?_set, turnL_at l i k hk]
    simp only [List.length_set, turnL_len]
    by_cases h1 : l.length - 1 - i = k
    · subst h1
      rw [if_pos rfl, if_pos (by omega), if_pos (.inr (by omega)), show l.length - 1 - (l.length - 1 - i) = i by omega]
    · rw [if_neg h1]
      by_cases h2 : i = k
      · subst h2
        rw [if_pos rfl, if_pos (by omega), if_pos (.inl (by omega))]
      · rw [if_neg h2]
        by_cases hc : k < i ∨ l.length - 1 - k < i
        · rw [if_pos hc, if_pos (by omega)]
        · rw [if_neg hc, if_neg (by omega)]
  · rw [List.getElem?_eq_none (by simp [turnL_len]; omega), List.getElem?_eq_none (by rw [turnL_len]; omega)]
theorem turnL_lo (l : List Key) (i : Nat) (h : 2 * i + 1 < l.length) : (turnL l i)[i]? = some (l.getD i zeroKey) := by
  rw [turnL_at l i i (by omega), if_neg (by omega)]
theorem turnL_hi (l : List Key) (i : Nat) (h : 2 * i + 1 < l.length) : (turnL l i)[l.length - 1 - i]? = some (l.getD (l.length - 1 - i) zeroKey) := by
  rw [turnL_at l i _ (by omega), if_neg (by omega)]
theorem ret0n {P : Program} {fn : Func} {R : Ending → World → Prop} {a : Act} {w : World} (h : fn.results = #[]) (hd : a.defers = []) (hR : R (.returned (.tuple #[])) w) : bodyPost P fn R .normal a w :=
  ⟨hd, _, by simp [results, h], hR⟩
theorem row_at {w0 W : World} {S : List It} {g n cap : Nat} {e : TypeId} {l : List Key} (h : Held w0 W S) (hk : It.row (.slice (some ⟨g, 0, none⟩) n cap) e 16 n (l.flatMap encK) ∈ S) {i : Nat} {x : Key} (hx : l[i]? = some x) :
    At W (.pointer (some ⟨g, i * 16, none⟩)) (encK x) := by
  obtain ⟨A, c, h1, h2, h3, h4⟩ := rd_rowH (enc := encK) h hk rfl (by decide) encK_len
  have hne : l ≠ [] := by rintro rfl; simp at hx
  obtain ⟨b, o, e, hr⟩ := h4 hne
  subst e
  injection h1 with h5 h6 h7
  injection h5 with h5
  injection h5 with h5 h8
  subst h5; subst h8
  refine ⟨g, i * 16, rfl, fun j v hv => ?_⟩
  have hj : j < 16 := by have := (List.getElem?_eq_some_iff.1 hv).1; rw [encK_len] at this; exact this
  have := hr (i * 16 + j) v (by rw [flatMap_at encK_len l i x hx j hj]; exact hv)
  rw [show i * 16 + j = 0 + (i * 16 + j) by omega]
  simpa [Nat.add_assoc] using this

set_option maxHeartbeats 800000 in
theorem reverse_c (w0 W : World) (L : List It) (v : Value) (l : List Key) (HM : Mem w0 W (.row v 23 16 l.length (l.flatMap encK) :: L)) (hl : l.length ≤ 1073741824) :
    Calls Try.prog 73 #[v] W fun e W' => e = .returned (.tuple #[]) ∧ Mem w0 W' (.row v 23 16 l.length (l.reverse.flatMap encK) :: L) := by
  have hown := HM.row m0
  obtain ⟨hlen, ho2⟩ := hown
  rcases ho2 with ⟨h0, hl0⟩ | ⟨g, cap, cur, hv, hb, hh, hc, hcm, hs, ht⟩
  · subst h0
    have hl1 : l = [] := by simpa [encK_len] using hl0
    subst hl1
    go_enter Try.func73, Try.ntmps73
    go_wp2_with (fail)
    go_loopw [2, 3] (fun c c2 wr => c = .int .i64 0 ∧ c2 = .int .i64 (-1) ∧ wr = W)
      (fun c _ _ => 0)
    case atStart => exact ⟨rfl, rfl, rfl⟩
    case round =>
      obtain ⟨rfl, rfl, rfl⟩ := hrel
      go_wp2_with (fail)
      refine ret0n rfl rfl ?_
      exact ⟨rfl, HM⟩
  · subst hv
    go_enter Try.func73, Try.ntmps73
    go_wp2_with (fail)
    clear hh hlen ht
    go_loopw [2, 3] (fun c c2 wr => ∃ i : Nat, 2 * i ≤ l.length + 1 ∧ c = .int .i64 i ∧ c2 = .int .i64 ((l.length : Int) - 1 - i) ∧ Mem w0 wr (.row (.slice (some ⟨g, 0, none⟩) l.length cap) 23 16 l.length ((turnL l i).flatMap encK) :: L))
      (fun c _ _ => l.length - (intOf c).toNat)
    case atStart => exact ⟨0, by omega, rfl, by go_num, by rw [turnL_0]; exact HM⟩
    case round =>
      clear HM
      obtain ⟨i, hi, rfl, rfl, HM⟩ := hrel
      by_cases h2 : 2 * i + 1 < l.length
      · have hb : (i : Int) < (l.length : Int) - 1 - i := by omega
        have hj : ((l.length : Int) - 1 - i).toNat = l.length - 1 - i := by omega
        have hj0 : (0 : Int) ≤ (l.length : Int) - 1 - i := by omega
        have hj2 : (i : Int) ≤ (l.length : Int) - 1 := by omega
        have hj1 : (l.length : Int) - 1 - i < (l.length : Int) := by omega
        have hi1 : (i : Int) < (l.length : Int) := by omega
        have hm := turnL_step l i h2
        go_wp2_with (fail)
        replace HM := HM.drew
        refine wp_region_mixN (fun W => Held w0 W [.row (.slice (some ⟨g, 0, none⟩) l.length cap) 23 16 l.length ((turnL l i).flatMap encK)]) (fun W => Held w0 W []) (.cons (2, 0) (.cons (2, 1) (.cons (2, 2) (.cons (2, 3) (.cons (2, 4) (.cons (2, 5) (.cons (2, 6) (.cons (1, 7) (.cons (2, 8) (.cons (2, 9) (.cons (2, 10) (.cons (1, 11) (.cons (2, 12) (.cons (3, 13) (.cons (2, 14) (.cons (3, 15) .nil)))))))))))))))) [13, 15] (by kernel_rfl) (by kernel_rfl) (by kernel_rfl) (fun W h => Held.weak h (by simp)) (HM.held (by simp)) ?_
        revert HM; generalize World.drew _ = W; intro HM
        have HS1 : Held w0 W [.row (.slice (some ⟨g, 0, none⟩) l.length cap) 23 16 l.length ((turnL l i).flatMap encK)] := HM.held (by simp)
        have HS2 : Held w0 W [] := HM.held (by simp)
        refine wm_q2 (i := 0) (v := ?v3_1) (some 14) rfl rfl rfl HS2 (fun W HS => ?y3_1) ?_
        case y3_1 => (go_simp; try with_reducible rfl)
        simp only [Act.put, List.getElem_toArray, List.getElem_cons_succ, List.getElem_cons_zero, List.setIfInBounds_toArray, List.set_cons_succ, List.set_cons_zero]
        refine wm_q2 (i := 1) (v := ?v3_2) (some 15) rfl rfl rfl HS2 (fun W HS => ?y3_2) ?_
        case y3_2 => (go_simp; try with_reducible rfl)
        simp only [Act.put, List.getElem_toArray, List.getElem_cons_succ, List.getElem_cons_zero, List.setIfInBounds_toArray, List.set_cons_succ, List.set_cons_zero]
        refine wm_q2 (i := 2) (v := ?v3_3) (some 16) rfl rfl rfl HS2 (fun W HS => ?y3_3) ?_
        case y3_3 => (go_simp; try with_reducible rfl)
        simp only [Act.put, List.getElem_toArray, List.getElem_cons_succ, List.getElem_cons_zero, List.setIfInBounds_toArray, List.set_cons_succ, List.set_cons_zero]
        refine wm_q2 (i := 3) (v := ?v3_4) (some 17) rfl rfl rfl HS2 (fun W HS => ?y3_4) ?_
        case y3_4 => (go_simp; try with_reducible rfl)
        simp only [Act.put, List.getElem_toArray, List.getElem_cons_succ, List.getElem_cons_zero, List.setIfInBounds_toArray, List.set_cons_succ, List.set_cons_zero]
        refine wm_q2 (i := 4) (v := ?v3_5) (some 18) rfl rfl rfl HS2 (fun W HS => ?y3_5) ?_
        case y3_5 => (go_simp; try with_reducible rfl)
        simp only [Act.put, List.getElem_toArray, List.getElem_cons_succ, List.getElem_cons_zero, List.setIfInBounds_toArray, List.set_cons_succ, List.set_cons_zero]
        refine wm_q2 (i := 5) (v := ?v3_6) (some 19) rfl rfl rfl HS2 (fun W HS => ?y3_6) ?_
        case y3_6 => (go_simp; try with_reducible rfl)
        simp only [Act.put, List.getElem_toArray, List.getElem_cons_succ, List.getElem_cons_zero, List.setIfInBounds_toArray, List.set_cons_succ, List.set_cons_zero]
        refine wm_q2 (i := 6) (v := ?v3_7) (some 20) rfl rfl rfl HS2 (fun W HS => ?y3_7) ?_
        case y3_7 => (go_simp; try with_reducible rfl)
        simp only [Act.put, List.getElem_toArray, List.getElem_cons_succ, List.getElem_cons_zero, List.setIfInBounds_toArray, List.set_cons_succ, List.set_cons_zero]
        refine wm_q1 (i := 7) (some 21) rfl rfl rfl HS1 (fun W HS => (by refine ry_load_key _ _ _ _ ?_ ((row_at HS m0 (turnL_hi l i h2))) Try.underlying23 sz23; rfl)) ?_
        simp only [Act.put, List.getElem_toArray, List.getElem_cons_succ, List.getElem_cons_zero, List.setIfInBounds_toArray, List.set_cons_succ, List.set_cons_zero]
        refine wm_q2 (i := 8) (v := ?v3_9) (some 22) rfl rfl rfl HS2 (fun W HS => ?y3_9) ?_
        case y3_9 => (go_simp; try with_reducible rfl)
        simp only [Act.put, List.getElem_toArray, List.getElem_cons_succ, List.getElem_cons_zero, List.setIfInBounds_toArray, List.set_cons_succ, List.set_cons_zero]
        refine wm_q2 (i := 9) (v := ?v3_10) (some 23) rfl rfl rfl HS2 (fun W HS => ?y3_10) ?_
        case y3_10 => (go_simp; try with_reducible rfl)
        simp only [Act.put, List.getElem_toArray, List.getElem_cons_succ, List.getElem_cons_zero, List.setIfInBounds_toArray, List.set_cons_succ, List.set_cons_zero]
        refine wm_q2 (i := 10) (v := ?v3_11) (some 24) rfl rfl rfl HS2 (fun W HS => ?y3_11) ?_
        case y3_11 => (go_simp; try with_reducible rfl)
        simp only [Act.put, List.getElem_toArray, List.getElem_cons_succ, List.getElem_cons_zero, List.setIfInBounds_toArray, List.set_cons_succ, List.set_cons_zero]
        refine wm_q1 (i := 11) (some 25) rfl rfl rfl HS1 (fun W HS => (by refine ry_load_key _ _ _ _ ?_ ((row_at HS m0 (turnL_lo l i h2))) Try.underlying23 sz23; rfl)) ?_
        simp only [Act.put, List.getElem_toArray, List.getElem_cons_succ, List.getElem_cons_zero, List.setIfInBounds_toArray, List.set_cons_succ, List.set_cons_zero]
        refine wm_q2 (i := 12) (v := ?v3_13) (some 26) rfl rfl rfl HS2 (fun W HS => ?y3_13) ?_
        case y3_13 => (go_simp; try with_reducible rfl)
        simp only [Act.put, List.getElem_toArray, List.getElem_cons_succ, List.getElem_cons_zero, List.setIfInBounds_toArray, List.set_cons_succ, List.set_cons_zero]
        refine wm_e3 (i := 13) rfl ?_
        go_wp2_with (first
          | (refine wl_store_rowK _ _ _ g i l.length cap 23 (turnL l i) (l.getD (l.length - 1 - i) zeroKey) rfl rfl HM .here sz23 (by rw [turnL_len]; omega) ?_; clear HM; intro W HM))
        refine ⟨HM.held (by simp), ?_⟩
        clear HS1 HS2
        have HS1 : True := trivial
        have HS2 : Held w0 W [] := HM.held (by simp)
        refine wm_q2 (i := 14) (v := ?v3_14) (some 27) rfl rfl rfl HS2 (fun W HS => ?y3_14) ?_
        case y3_14 => (go_simp; try with_reducible rfl)
        simp only [Act.put, List.getElem_toArray, List.getElem_cons_succ, List.getElem_cons_zero, List.setIfInBounds_toArray, List.set_cons_succ, List.set_cons_zero]
        refine wm_e3 (i := 15) rfl ?_
        go_wp2_with (first
          | (refine wl_store_rowK _ _ _ g (l.length - 1 - i) l.length cap 23 ((turnL l i).set i (l.getD (l.length - 1 - i) zeroKey)) (l.getD i zeroKey) rfl rfl HM .here sz23 (by rw [List.length_set, turnL_len]; omega) ?_; clear HM; intro W HM))
        refine ⟨HM.held (by simp), ?_⟩
        clear HS1 HS2
        have HS1 : True := trivial
        have HS2 : Held w0 W [] := HM.held (by simp)
        refine wm_nilN ?_
        clear HS1 HS2
        go_wp2_with (fail)
        go_roundw
        case rel => exact ⟨i + 1, by omega, by go_num, by go_num, by rw [← hm]; exact HM⟩
        case measure => simp [intOf]; omega
      · have hb : ¬ (i : Int) < (l.length : Int) - 1 - i := by omega
        go_wp2_with (fail)
        refine ret0n rfl rfl ?_
        rw [← turnL_end l i (by omega)]
        exact ⟨rfl, HM⟩
end Go.Proofs.Ythdekionepfmdaa
