/- What a growth path gives for an old root: the program's grow. -/
import Derived.Test.YthdekionepfmdaaVee
set_option linter.unusedVariables false
set_option linter.unusedSimpArgs false
set_option maxRecDepth 8000
namespace Go.Proofs.Ythdekionepfmdaa
open Go.RowKit

def headK (bef : Key) (p : List Key) : Key := p.getD 0 bef
theorem headK_nil (bef : Key) (p : List Key) (h : p.length = 0) : headK bef p = bef := by
  have : p = [] := List.eq_nil_of_length_eq_zero h
  subst this; rfl
theorem headK_at (bef : Key) (p : List Key) (h : 1 ≤ p.length) : p[(0 : Int).toNat]? = some (headK bef p) := by
  rw [headK, List.getD_eq_getElem?_getD, show (0 : Int).toNat = 0 from rfl, List.getElem?_eq_getElem (by omega)]; rfl
abbrev cutL (p : List Key) : List Key := p.take (p.length - 1)
/-- The old root and the new root that a path gives, and the texts that are digested. -/
def growA (bef : Key) (n m : Nat) (p : List Key) : Key :=
  if h : n ≤ m ∨ n ≤ 1 then headK bef p
  else if m ≤ splitN n then growA bef (splitN n) m (cutL p)
  else digNode (lastK p) (growA bef (n - splitN n) (m - splitN n) (cutL p))
termination_by n
decreasing_by
  · have := splitN_lt n (by omega); omega
  · have := splitN_lt n (by omega); omega
def growB (bef : Key) (n m : Nat) (p : List Key) : Key :=
  if h : n ≤ m ∨ n ≤ 1 then headK bef p
  else if m ≤ splitN n then digNode (growB bef (splitN n) m (cutL p)) (lastK p)
  else digNode (lastK p) (growB bef (n - splitN n) (m - splitN n) (cutL p))
termination_by n
decreasing_by
  · have := splitN_lt n (by omega); omega
  · have := splitN_lt n (by omega); omega
def growT (bef : Key) (n m : Nat) (p : List Key) : List (List UInt8) :=
  if h : n ≤ m ∨ n ≤ 1 then []
  else if m ≤ splitN n then growT bef (splitN n) m (cutL p) ++ [textNode (growB bef (splitN n) m (cutL p)) (lastK p)]
  else growT bef (n - splitN n) (m - splitN n) (cutL p) ++ [textNode (lastK p) (growA bef (n - splitN n) (m - splitN n) (cutL p)), textNode (lastK p) (growB bef (n - splitN n) (m - splitN n) (cutL p))]
termination_by n
decreasing_by
  · have := splitN_lt n (by omega); omega
  · have := splitN_lt n (by omega); omega
theorem grow_end (bef : Key) (n m : Nat) (p : List Key) (h : n ≤ m) : growA bef n m p = headK bef p ∧ growB bef n m p = headK bef p ∧ growT bef n m p = [] := by
  rw [growA, growB, growT, dif_pos (.inl h), dif_pos (.inl h), dif_pos (.inl h)]; exact ⟨rfl, rfl, rfl⟩
theorem grow_lo (bef : Key) (n m : Nat) (p : List Key) (h1 : 1 ≤ m) (h : m < n) (hi : m ≤ splitN n) : growA bef n m p = growA bef (splitN n) m (cutL p) ∧ growB bef n m p = digNode (growB bef (splitN n) m (cutL p)) (lastK p) ∧
    growT bef n m p = growT bef (splitN n) m (cutL p) ++ [textNode (growB bef (splitN n) m (cutL p)) (lastK p)] := by
  refine ⟨?_, ?_, ?_⟩
  · rw [growA, dif_neg (by omega), if_pos hi]
  · rw [growB, dif_neg (by omega), if_pos hi]
  · rw [growT, dif_neg (by omega), if_pos hi]
theorem grow_hi (bef : Key) (n m : Nat) (p : List Key) (h1 : 1 ≤ m) (h : m < n) (hi : ¬ m ≤ splitN n) : growA bef n m p = digNode (lastK p) (growA bef (n - splitN n) (m - splitN n) (cutL p)) ∧ growB bef n m p = digNode (lastK p) (growB bef (n - splitN n) (m - splitN n) (cutL p)) ∧
    growT bef n m p = growT bef (n - splitN n) (m - splitN n) (cutL p) ++ [textNode (lastK p) (growA bef (n - splitN n) (m - splitN n) (cutL p)), textNode (lastK p) (growB bef (n - splitN n) (m - splitN n) (cutL p))] := by
  refine ⟨?_, ?_, ?_⟩
  · rw [growA, dif_neg (by omega), if_neg hi]
  · rw [growB, dif_neg (by omega), if_neg hi]
  · rw [growT, dif_neg (by omega), if_neg hi]
theorem growT_len : ∀ (n : Nat) (bef : Key) (m : Nat) (p : List Key), (growT bef n m p).length ≤ 2 * n := by
  intro n
  induction n using Nat.strongRecOn with
  | ind n ih =>
    intro bef m p
    by_cases h : n ≤ m ∨ n ≤ 1
    · rw [growT, dif_pos h]; simp
    · have hs := splitN_lt n (by omega)
      rw [growT, dif_neg h]
      by_cases hi : m ≤ splitN n
      · rw [if_pos hi]; have := ih (splitN n) (by omega) bef m (cutL p); simp; omega
      · rw [if_neg hi]; have := ih (n - splitN n) (by omega) bef (m - splitN n) (cutL p); simp; omega
section
variable {w0 W : World} {a b c d e f g x y : It} {L : List It}
theorem Mem.f1 (h : Mem w0 W (a :: x :: y :: L)) : Mem w0 W (x :: y :: a :: L) := h.perm (List.perm_append_comm_assoc [a] [x, y] L)
theorem Mem.f2 (h : Mem w0 W (a :: b :: x :: y :: L)) : Mem w0 W (x :: y :: a :: b :: L) := h.perm (List.perm_append_comm_assoc [a, b] [x, y] L)
theorem Mem.f3 (h : Mem w0 W (a :: b :: c :: x :: y :: L)) : Mem w0 W (x :: y :: a :: b :: c :: L) := h.perm (List.perm_append_comm_assoc [a, b, c] [x, y] L)
theorem Mem.f4 (h : Mem w0 W (a :: b :: c :: d :: x :: y :: L)) : Mem w0 W (x :: y :: a :: b :: c :: d :: L) := h.perm (List.perm_append_comm_assoc [a, b, c, d] [x, y] L)
theorem Mem.f5 (h : Mem w0 W (a :: b :: c :: d :: e :: x :: y :: L)) : Mem w0 W (x :: y :: a :: b :: c :: d :: e :: L) := h.perm (List.perm_append_comm_assoc [a, b, c, d, e] [x, y] L)
theorem Mem.s23 (h : Mem w0 W (x :: y :: a :: b :: L)) : Mem w0 W (x :: y :: b :: a :: L) := h.perm (List.Perm.cons x (List.Perm.cons y (List.Perm.swap b a L)))
theorem Mem.tuck1 {R : List It} (h : Mem w0 W (x :: y :: a :: (L ++ R))) : Mem w0 W (x :: y :: (L ++ a :: R)) := h.perm (List.Perm.cons x (List.Perm.cons y List.perm_middle.symm))
theorem Mem.tuck2 {R : List It} (h : Mem w0 W (x :: y :: a :: b :: (L ++ R))) : Mem w0 W (x :: y :: (L ++ a :: b :: R)) :=
  h.perm (List.Perm.cons x (List.Perm.cons y ((List.Perm.cons a List.perm_middle.symm).trans List.perm_middle.symm)))
end

section
attribute [local irreducible] rowT
set_option maxHeartbeats 6400000 in
theorem grow_c (w0 : World) (b : Nat) (bef : Key) : ∀ (n m : Nat) (wh : Bool) (p : List Key) (v : Value) (W : World) (u : Value) (us : List (Value × List UInt8)) (L : List It), 1 ≤ m → m ≤ n → n ≤ 128 → FitgIs p.length n m wh → us.length + 2 * n ≤ 1000000 → RdL encK 16 w0 v p →
    Mem w0 W (.blk b #[u] 119 :: .row u 24 1 us.length (valsT us) :: L) →
    Calls Try.prog 82 #[.pointer (some ⟨b, 0, none⟩), .agg (kc bef), .int .i64 (n : Int), .int .i64 (m : Int), v] W fun e W' =>
      ∃ u' vs R, e = .returned (.tuple #[.agg (kc (growA bef n m p)), .agg (kc (growB bef n m p))]) ∧ TxIs vs (growT bef n m p) ∧ Tx vs R ∧ Mem w0 W' (.blk b #[u'] 119 :: .row u' 24 1 (us ++ vs).length (valsT (us ++ vs)) :: (L ++ R)) := by
  intro n
  induction n using Nat.strongRecOn with
  | ind n ih =>
    intro m wh p v W u us L h1 hm hn hpl hus hR HM
    by_cases hone : m = n
    · have hb : (m : Int) = (n : Int) := by omega
      clear ih
      obtain ⟨e1, e2, e3⟩ := grow_end bef n m p (by omega)
      rw [e1, e2, e3]
      clear e1 e2 e3
      by_cases hp0 : p.length = 0
      · have hb0 : ¬ (0 : Int) < (p.length : Int) := by omega
        rw [headK_nil bef p hp0]
        go_enter Try.func82, Try.ntmps82
        go_wp2_with (first
          | ((with_reducible refine s_ 6 ?_); go_must (refine wl_box (dst := some 6) (cs := kc bef) _ _ _ rfl rfl HM ?_; clear HM; intro b6 W HM))
          | ((with_reducible refine s_ 10 ?_); go_must (refine wl_alloc (dst := some 10) (cs := kc zeroKey) 23 _ Try.zeroValue23 kc_zero HM ?_; clear HM; intro b10 W HM))
          | ((with_reducible refine s_ 11 ?_); go_must (refine wl_alloc (dst := some 11) (cs := kc zeroKey) 23 _ Try.zeroValue23 kc_zero HM ?_; clear HM; intro b11 W HM))
          | ((with_reducible refine s_ 22 ?_); go_must ((refine wl_len (dst := some 22) _ _ _ _ 23 Try.underlying40 rfl (hR.mem HM) ?_))))
        replace HM := HM.drew
        refine wp_region_mixN (fun W => Held w0 W [.blk b6 (kc bef) 23]) (fun W => Held w0 W [.blk b6 (kc bef) 23]) (.cons (2, 0) (.cons (2, 1) (.cons (0, 2) (.cons (0, 3) .nil)))) [] (by kernel_rfl) (by kernel_rfl) (by kernel_rfl) (fun W h => Held.weak h (by simp)) (HM.held (by simp)) ?_
        revert HM; generalize World.drew _ = W; intro HM
        have HS1 : Held w0 W [.blk b6 (kc bef) 23] := HM.held (by simp)
        have HS2 : Held w0 W [.blk b6 (kc bef) 23] := HM.held (by simp)
        refine wm_q2 (i := 0) (some 27) rfl rfl rfl HS2 (fun W HS => (by ((refine ry_load_blk _ _ _ _ _ _ HS ?_ m0 Try.underlying23 rfl (by rw [kc_size]; exact sz23); rfl)))) ?_
        simp only [Act.put, List.getElem_toArray, List.getElem_cons_succ, List.getElem_cons_zero, List.setIfInBounds_toArray, List.set_cons_succ, List.set_cons_zero]
        refine wm_q2 (i := 1) (some 28) rfl rfl rfl HS2 (fun W HS => (by ((refine ry_load_blk _ _ _ _ _ _ HS ?_ m0 Try.underlying23 rfl (by rw [kc_size]; exact sz23); rfl)))) ?_
        simp only [Act.put, List.getElem_toArray, List.getElem_cons_succ, List.getElem_cons_zero, List.setIfInBounds_toArray, List.set_cons_succ, List.set_cons_zero]
        refine wm_e0 (i := 2) rfl ?_
        go_wp2_with (first
          | ((with_reducible refine st_ 23 ?_); go_must ((refine wl_store_blk _ _ _ _ _ _ _ rfl rfl HM (.there .here) (by rw [kc_size]; exact sz23) (by simp only [kc_size]) (kc_one _) ?_); clear HM; intro W HM)))
        refine ⟨HM.held (by simp), ?_⟩
        clear HS1 HS2
        have HS1 : Held w0 W [.blk b6 (kc bef) 23] := HM.held (by simp)
        have HS2 : Held w0 W [.blk b6 (kc bef) 23] := HM.held (by simp)
        refine wm_e0 (i := 3) rfl ?_
        go_wp2_with (first
          | ((with_reducible refine st_ 23 ?_); go_must ((refine wl_store_blk _ _ _ _ _ _ _ rfl rfl HM .here (by rw [kc_size]; exact sz23) (by simp only [kc_size]) (kc_one _) ?_); clear HM; intro W HM)))
        refine ⟨HM.held (by simp), ?_⟩
        clear HS1 HS2
        have HS1 : Held w0 W [.blk b6 (kc bef) 23] := HM.held (by simp)
        have HS2 : Held w0 W [.blk b6 (kc bef) 23] := HM.held (by simp)
        refine wm_nilN ?_
        clear HS1 HS2
        go_wp2_with (fail)
        refine ret2 rfl (by (exact res_row HM rfl m1 Try.underlying23 rfl (by rw [kc_size]; exact sz23))) (by (exact res_row HM rfl m0 Try.underlying23 rfl (by rw [kc_size]; exact sz23))) rfl ?_
        exact ⟨u, [], [], rfl, rfl, Tx.nil _, by simpa only [List.append_nil] using HM.sub (.cons _ (.cons _ (.cons _ (.refl _))))⟩
      · have hb0 : (0 : Int) < (p.length : Int) := by omega
        have hx := headK_at bef p (by omega)
        go_enter Try.func82, Try.ntmps82
        go_wp2_with (first
          | ((with_reducible refine s_ 6 ?_); go_must (refine wl_box (dst := some 6) (cs := kc bef) _ _ _ rfl rfl HM ?_; clear HM; intro b6 W HM))
          | ((with_reducible refine s_ 10 ?_); go_must (refine wl_alloc (dst := some 10) (cs := kc zeroKey) 23 _ Try.zeroValue23 kc_zero HM ?_; clear HM; intro b10 W HM))
          | ((with_reducible refine s_ 11 ?_); go_must (refine wl_alloc (dst := some 11) (cs := kc zeroKey) 23 _ Try.zeroValue23 kc_zero HM ?_; clear HM; intro b11 W HM))
          | ((with_reducible refine s_ 22 ?_); go_must ((refine wl_len (dst := some 22) _ _ _ _ 23 Try.underlying40 rfl (hR.mem HM) ?_)))
          | ((with_reducible refine s_ 25 ?_); go_must ((refine wl_index (dst := some 25) _ 23 _ _ _ _ _ _ _ encK_len Try.underlying40 sz23 rfl rfl (hR.mem HM) (by omega) (by first | assumption | simp [*]) ?_); intro p25 hp25))
          | ((with_reducible refine s_ 26 ?_); go_must (refine wl_load_key (dst := some 26) _ _ _ _ rfl hp25 Try.underlying23 sz23 ?_))
          | ((with_reducible refine st_ 23 ?_); go_must ((refine wl_store_blk _ _ _ _ _ _ _ rfl rfl HM (.there (.there .here)) (by rw [kc_size]; exact sz23) (by simp only [kc_size]) (kc_one _) ?_); clear HM; intro W HM)))
        replace HM := HM.drew
        refine wp_region_mixN (fun W => Held w0 W [.blk b6 (kc (headK bef p)) 23]) (fun W => Held w0 W [.blk b6 (kc (headK bef p)) 23]) (.cons (2, 0) (.cons (2, 1) (.cons (0, 2) (.cons (0, 3) .nil)))) [] (by kernel_rfl) (by kernel_rfl) (by kernel_rfl) (fun W h => Held.weak h (by simp)) (HM.held (by simp)) ?_
        revert HM; generalize World.drew _ = W; intro HM
        have HS1 : Held w0 W [.blk b6 (kc (headK bef p)) 23] := HM.held (by simp)
        have HS2 : Held w0 W [.blk b6 (kc (headK bef p)) 23] := HM.held (by simp)
        refine wm_q2 (i := 0) (some 27) rfl rfl rfl HS2 (fun W HS => (by ((refine ry_load_blk _ _ _ _ _ _ HS ?_ m0 Try.underlying23 rfl (by rw [kc_size]; exact sz23); rfl)))) ?_
        simp only [Act.put, List.getElem_toArray, List.getElem_cons_succ, List.getElem_cons_zero, List.setIfInBounds_toArray, List.set_cons_succ, List.set_cons_zero]
        refine wm_q2 (i := 1) (some 28) rfl rfl rfl HS2 (fun W HS => (by ((refine ry_load_blk _ _ _ _ _ _ HS ?_ m0 Try.underlying23 rfl (by rw [kc_size]; exact sz23); rfl)))) ?_
        simp only [Act.put, List.getElem_toArray, List.getElem_cons_succ, List.getElem_cons_zero, List.setIfInBounds_toArray, List.set_cons_succ, List.set_cons_zero]
        refine wm_e0 (i := 2) rfl ?_
        go_wp2_with (first
          | ((with_reducible refine st_ 23 ?_); go_must ((refine wl_store_blk _ _ _ _ _ _ _ rfl rfl HM (.there .here) (by rw [kc_size]; exact sz23) (by simp only [kc_size]) (kc_one _) ?_); clear HM; intro W HM)))
        refine ⟨HM.held (by simp), ?_⟩
        clear HS1 HS2
        have HS1 : Held w0 W [.blk b6 (kc (headK bef p)) 23] := HM.held (by simp)
        have HS2 : Held w0 W [.blk b6 (kc (headK bef p)) 23] := HM.held (by simp)
        refine wm_e0 (i := 3) rfl ?_
        go_wp2_with (first
          | ((with_reducible refine st_ 23 ?_); go_must ((refine wl_store_blk _ _ _ _ _ _ _ rfl rfl HM .here (by rw [kc_size]; exact sz23) (by simp only [kc_size]) (kc_one _) ?_); clear HM; intro W HM)))
        refine ⟨HM.held (by simp), ?_⟩
        clear HS1 HS2
        have HS1 : Held w0 W [.blk b6 (kc (headK bef p)) 23] := HM.held (by simp)
        have HS2 : Held w0 W [.blk b6 (kc (headK bef p)) 23] := HM.held (by simp)
        refine wm_nilN ?_
        clear HS1 HS2
        go_wp2_with (fail)
        refine ret2 rfl (by (exact res_row HM rfl m1 Try.underlying23 rfl (by rw [kc_size]; exact sz23))) (by (exact res_row HM rfl m0 Try.underlying23 rfl (by rw [kc_size]; exact sz23))) rfl ?_
        exact ⟨u, [], [], rfl, rfl, Tx.nil _, by simpa only [List.append_nil] using HM.sub (.cons _ (.cons _ (.cons _ (.refl _))))⟩
    · have hb : ¬ (m : Int) = (n : Int) := by omega
      have hs := splitN_lt n (by omega)
      have hple : p.length ≤ 129 := by rw [hpl.eq]; have := partsN_le n m wh; omega
      have hpn : 1 ≤ p.length := by
        rw [hpl.eq]
        by_cases hlo : m ≤ splitN n
        · rw [partsN_lo n m wh h1 (by omega) hlo]; omega
        · rw [partsN_hi n m wh h1 (by omega) hlo]; omega
      have hw0 : IntKind.i64.wrap ((p.length : Int) - 1) = (p.length : Int) - 1 := by rw [IntKind.wrap_i64]; omega
      have ht : ((p.length : Int) - 1).toNat = p.length - 1 := by omega
      have hj1 : (0 : Int) ≤ (p.length : Int) - 1 := by omega
      have hj2 : (p.length : Int) - 1 ≤ (p.length : Int) := by omega
      have hj3 : (1 : Int) ≤ (p.length : Int) := by omega
      have hx : p[((p.length : Int) - 1).toNat]? = some (lastK p) := by rw [ht]; exact lastK_at p hpn
      by_cases hlo : m ≤ splitN n
      · have hb2 : (m : Int) ≤ ((splitN n : Nat) : Int) := by omega
        have hpl2 : FitgIs (p.take ((p.length : Int) - 1).toNat).length (splitN n) m wh := by
          rw [FitgIs, List.length_take, ht, hpl.eq, partsN_lo n m wh h1 (by omega) hlo]; omega
        have hz2 := growT_len (splitN n) bef m (p.take ((p.length : Int) - 1).toNat)
        obtain ⟨e1, e2, e3⟩ := grow_lo bef n m p h1 (by omega) hlo
        rw [e1, e2, e3]
        clear e1 e2 e3
        go_enter Try.func82, Try.ntmps82
        go_wp2_with (first
          | ((with_reducible refine s_ 6 ?_); go_must (refine wl_box (dst := some 6) (cs := kc bef) _ _ _ rfl rfl HM ?_; clear HM; intro b6 W HM))
          | ((with_reducible refine s_ 10 ?_); go_must (refine wl_alloc (dst := some 10) (cs := kc zeroKey) 23 _ Try.zeroValue23 kc_zero HM ?_; clear HM; intro b10 W HM))
          | ((with_reducible refine s_ 11 ?_); go_must (refine wl_alloc (dst := some 11) (cs := kc zeroKey) 23 _ Try.zeroValue23 kc_zero HM ?_; clear HM; intro b11 W HM))
          | ((with_reducible refine s_ 32 ?_); go_must ((refine wl_len (dst := some 32) _ _ _ _ 23 Try.underlying40 rfl (hR.mem HM) ?_)))
          | (go_at_call 72; go_must (((with_reducible refine (split_c _ (by omega) (by omega) _).mono ?_)); rintro e W ⟨rfl, HM'⟩; replace HM := HM.keep HM'.below; clear HM')))
        replace HM := HM.drew
        refine wp_region_mixN (fun W => Held w0 W [.blk b6 (kc bef) 23]) (fun W => Held w0 W [.blk b6 (kc bef) 23]) (.cons (2, 0) (.cons (2, 1) (.cons (2, 2) (.cons (2, 3) (.cons (2, 4) (.cons (2, 5) (.cons (2, 6) (.fork3 7 (.cons (2, 8) (.cons (2, 9) (.cons (2, 10) (.fork2 11 (.cons (0, 12) (.cons (0, 13) (.cons (0, 14) .nil))) 12 (.cons (0, 11) (.cons (0, 13) (.cons (0, 14) .nil))))))) 11 (.fork2 7 (.cons (2, 8) (.cons (2, 9) (.cons (2, 10) (.cons (0, 12) (.cons (0, 13) (.cons (0, 14) .nil)))))) 12 (.cons (0, 7) (.cons (2, 8) (.cons (2, 9) (.cons (2, 10) (.cons (0, 13) (.cons (0, 14) .nil))))))) 12 (.fork2 7 (.cons (2, 8) (.cons (2, 9) (.cons (2, 10) (.cons (0, 11) (.cons (0, 13) (.cons (0, 14) .nil)))))) 11 (.cons (0, 7) (.cons (2, 8) (.cons (2, 9) (.cons (2, 10) (.cons (0, 13) (.cons (0, 14) .nil))))))))))))))) [] (by kernel_rfl) (by kernel_rfl) (by kernel_rfl) (fun W h => Held.weak h (by simp)) (HM.held (by simp)) ?_
        revert HM; generalize World.drew _ = W; intro HM
        have HS1 : Held w0 W [.blk b6 (kc bef) 23] := HM.held (by simp)
        have HS2 : Held w0 W [.blk b6 (kc bef) 23] := HM.held (by simp)
        refine wm_q2 (i := 0) (v := ?v7_5) (some 38) rfl rfl rfl HS2 (fun W HS => ?y7_5) ?_
        case y7_5 => (go_simp; try with_reducible rfl)
        simp only [Act.put, List.getElem_toArray, List.getElem_cons_succ, List.getElem_cons_zero, List.setIfInBounds_toArray, List.set_cons_succ, List.set_cons_zero]
        refine wm_q2 (i := 1) (some 39) rfl rfl rfl HS2 (fun W HS => (by ((refine ry_load_blk _ _ _ _ _ _ HS ?_ m0 Try.underlying23 rfl (by rw [kc_size]; exact sz23); rfl)))) ?_
        simp only [Act.put, List.getElem_toArray, List.getElem_cons_succ, List.getElem_cons_zero, List.setIfInBounds_toArray, List.set_cons_succ, List.set_cons_zero]
        refine wm_q2 (i := 2) (v := ?v7_7) (some 40) rfl rfl rfl HS2 (fun W HS => ?y7_7) ?_
        case y7_7 => (go_simp; try with_reducible rfl)
        simp only [Act.put, List.getElem_toArray, List.getElem_cons_succ, List.getElem_cons_zero, List.setIfInBounds_toArray, List.set_cons_succ, List.set_cons_zero]
        refine wm_q2 (i := 3) (v := ?v7_8) (some 41) rfl rfl rfl HS2 (fun W HS => ?y7_8) ?_
        case y7_8 => (go_simp; try with_reducible rfl)
        simp only [Act.put, List.getElem_toArray, List.getElem_cons_succ, List.getElem_cons_zero, List.setIfInBounds_toArray, List.set_cons_succ, List.set_cons_zero]
        refine wm_q2 (i := 4) (v := ?v7_9) (some 42) rfl rfl rfl HS2 (fun W HS => ?y7_9) ?_
        case y7_9 => (go_simp; try with_reducible rfl)
        simp only [Act.put, List.getElem_toArray, List.getElem_cons_succ, List.getElem_cons_zero, List.setIfInBounds_toArray, List.set_cons_succ, List.set_cons_zero]
        refine wm_q2 (i := 5) (v := ?v7_10) (some 43) rfl rfl rfl HS2 (fun W HS => ?y7_10) ?_
        case y7_10 => (go_simp; try with_reducible rfl)
        simp only [Act.put, List.getElem_toArray, List.getElem_cons_succ, List.getElem_cons_zero, List.setIfInBounds_toArray, List.set_cons_succ, List.set_cons_zero]
        (refine wm_q2x (i := 6) (some 44) rfl rfl rfl HS2 (ry_slice_hi _ 23 _ _ _ _ _ _ encK_len Try.underlying40 sz23 (hR.mem HM) rfl rfl (by omega) (by omega)) ?_); intro v44 hv44
        simp only [Act.put, List.getElem_toArray, List.getElem_cons_succ, List.getElem_cons_zero, List.setIfInBounds_toArray, List.set_cons_succ, List.set_cons_zero]
        refine wm_fork3 ?br11 ?br12 ?br13
        case' br11 =>
          refine wm_e0 (i := 7) rfl ?_
          go_wp2_with (first
            | (go_at_call 82; go_must (((with_reducible refine (ih (splitN n) (by omega) m wh _ _ _ u us _ h1 (by omega) (by omega) hpl2 (by omega) (hv44 _ hR) HM.f3).mono ?_)); rintro e W ⟨u1, vs1, R1, rfl, hT1, hX1, HM'⟩; clear HM; rename _ => HM; simp only [List.cons_append] at HM)))
          refine ⟨HM.held (by simp), ?_⟩
          clear HS1 HS2
          have HS1 : Held w0 W [.blk b6 (kc bef) 23] := HM.held (by simp)
          have HS2 : Held w0 W [.blk b6 (kc bef) 23] := HM.held (by simp)
          refine wm_q2 (i := 8) (v := ?v7_14) (some 37) rfl rfl rfl HS2 (fun W HS => ?y7_14) ?_
          case y7_14 => (go_simp; try with_reducible rfl)
          simp only [Act.put, List.getElem_toArray, List.getElem_cons_succ, List.getElem_cons_zero, List.setIfInBounds_toArray, List.set_cons_succ, List.set_cons_zero]
          refine wm_q2 (i := 9) (v := ?v7_15) (some 46) rfl rfl rfl HS2 (fun W HS => ?y7_15) ?_
          case y7_15 => (go_simp; try with_reducible rfl)
          simp only [Act.put, List.getElem_toArray, List.getElem_cons_succ, List.getElem_cons_zero, List.setIfInBounds_toArray, List.set_cons_succ, List.set_cons_zero]
          refine wm_q2 (i := 10) (v := ?v7_16) (some 47) rfl rfl rfl HS2 (fun W HS => ?y7_16) ?_
          case y7_16 => (go_simp; try with_reducible rfl)
          simp only [Act.put, List.getElem_toArray, List.getElem_cons_succ, List.getElem_cons_zero, List.setIfInBounds_toArray, List.set_cons_succ, List.set_cons_zero]
          refine wm_fork2 ?br17 ?br18
          case' br17 =>
            refine wm_e0 (i := 11) rfl ?_
            go_wp2_with (first
              | ((with_reducible refine s_ 14 ?_); go_must (refine wl_alloc (dst := some 14) (cs := kc zeroKey) 23 _ Try.zeroValue23 kc_zero HM ?_; clear HM; intro b14 W HM)))
            refine ⟨HM.held (by simp), ?_⟩
            clear HS1 HS2
            have HS1 : Held w0 W [.blk b6 (kc bef) 23] := HM.held (by simp)
            have HS2 : Held w0 W [.blk b6 (kc bef) 23] := HM.held (by simp)
            refine wm_e0 (i := 12) rfl ?_
            go_wp2_with (first
              | ((with_reducible refine s_ 15 ?_); go_must (refine wl_alloc (dst := some 15) (cs := kc zeroKey) 23 _ Try.zeroValue23 kc_zero HM ?_; clear HM; intro b15 W HM)))
            refine ⟨HM.held (by simp), ?_⟩
            clear HS1 HS2
            have HS1 : Held w0 W [.blk b6 (kc bef) 23] := HM.held (by simp)
            have HS2 : Held w0 W [.blk b6 (kc bef) 23] := HM.held (by simp)
            refine wm_e0 (i := 13) rfl ?_
            go_wp2_with (first
              | ((with_reducible refine st_ 23 ?_); go_must ((refine wl_store_blk _ _ _ _ _ _ _ rfl rfl HM (.there .here) (by rw [kc_size]; exact sz23) (by simp only [kc_size]) (kc_one _) ?_); clear HM; intro W HM)))
            refine ⟨HM.held (by simp), ?_⟩
            clear HS1 HS2
            have HS1 : Held w0 W [.blk b6 (kc bef) 23] := HM.held (by simp)
            have HS2 : Held w0 W [.blk b6 (kc bef) 23] := HM.held (by simp)
            refine wm_e0 (i := 14) rfl ?_
            go_wp2_with (first
              | ((with_reducible refine st_ 23 ?_); go_must ((refine wl_store_blk _ _ _ _ _ _ _ rfl rfl HM .here (by rw [kc_size]; exact sz23) (by simp only [kc_size]) (kc_one _) ?_); clear HM; intro W HM)))
            refine ⟨HM.held (by simp), ?_⟩
            clear HS1 HS2
            have HS1 : Held w0 W [.blk b6 (kc bef) 23] := HM.held (by simp)
            have HS2 : Held w0 W [.blk b6 (kc bef) 23] := HM.held (by simp)
            refine wm_nilN ?_
            clear HS1 HS2
          case' br18 =>
            refine wm_e0 (i := 12) rfl ?_
            go_wp2_with (first
              | ((with_reducible refine s_ 15 ?_); go_must (refine wl_alloc (dst := some 15) (cs := kc zeroKey) 23 _ Try.zeroValue23 kc_zero HM ?_; clear HM; intro b15 W HM)))
            refine ⟨HM.held (by simp), ?_⟩
            clear HS1 HS2
            have HS1 : Held w0 W [.blk b6 (kc bef) 23] := HM.held (by simp)
            have HS2 : Held w0 W [.blk b6 (kc bef) 23] := HM.held (by simp)
            refine wm_e0 (i := 11) rfl ?_
            go_wp2_with (first
              | ((with_reducible refine s_ 14 ?_); go_must (refine wl_alloc (dst := some 14) (cs := kc zeroKey) 23 _ Try.zeroValue23 kc_zero HM ?_; clear HM; intro b14 W HM)))
            refine ⟨HM.held (by simp), ?_⟩
            clear HS1 HS2
            have HS1 : Held w0 W [.blk b6 (kc bef) 23] := HM.held (by simp)
            have HS2 : Held w0 W [.blk b6 (kc bef) 23] := HM.held (by simp)
            refine wm_e0 (i := 13) rfl ?_
            go_wp2_with (first
              | ((with_reducible refine st_ 23 ?_); go_must ((refine wl_store_blk _ _ _ _ _ _ _ rfl rfl HM .here (by rw [kc_size]; exact sz23) (by simp only [kc_size]) (kc_one _) ?_); clear HM; intro W HM)))
            refine ⟨HM.held (by simp), ?_⟩
            clear HS1 HS2
            have HS1 : Held w0 W [.blk b6 (kc bef) 23] := HM.held (by simp)
            have HS2 : Held w0 W [.blk b6 (kc bef) 23] := HM.held (by simp)
            refine wm_e0 (i := 14) rfl ?_
            go_wp2_with (first
              | ((with_reducible refine st_ 23 ?_); go_must ((refine wl_store_blk _ _ _ _ _ _ _ rfl rfl HM (.there .here) (by rw [kc_size]; exact sz23) (by simp only [kc_size]) (kc_one _) ?_); clear HM; intro W HM)))
            refine ⟨HM.held (by simp), ?_⟩
            clear HS1 HS2
            have HS1 : Held w0 W [.blk b6 (kc bef) 23] := HM.held (by simp)
            have HS2 : Held w0 W [.blk b6 (kc bef) 23] := HM.held (by simp)
            refine wm_nilN ?_
            clear HS1 HS2
        case' br12 =>
          refine wm_e0 (i := 11) rfl ?_
          go_wp2_with (first
            | ((with_reducible refine s_ 14 ?_); go_must (refine wl_alloc (dst := some 14) (cs := kc zeroKey) 23 _ Try.zeroValue23 kc_zero HM ?_; clear HM; intro b14 W HM)))
          refine ⟨HM.held (by simp), ?_⟩
          clear HS1 HS2
          have HS1 : Held w0 W [.blk b6 (kc bef) 23] := HM.held (by simp)
          have HS2 : Held w0 W [.blk b6 (kc bef) 23] := HM.held (by simp)
          refine wm_fork2 ?br19 ?br20
          case' br19 =>
            refine wm_e0 (i := 7) rfl ?_
            go_wp2_with (first
              | (go_at_call 82; go_must (((with_reducible refine (ih (splitN n) (by omega) m wh _ _ _ u us _ h1 (by omega) (by omega) hpl2 (by omega) (hv44 _ hR) HM.f4).mono ?_)); rintro e W ⟨u1, vs1, R1, rfl, hT1, hX1, HM'⟩; clear HM; rename _ => HM; simp only [List.cons_append] at HM)))
            refine ⟨HM.held (by simp), ?_⟩
            clear HS1 HS2
            have HS1 : Held w0 W [.blk b6 (kc bef) 23] := HM.held (by simp)
            have HS2 : Held w0 W [.blk b6 (kc bef) 23] := HM.held (by simp)
            refine wm_q2 (i := 8) (v := ?v7_21) (some 37) rfl rfl rfl HS2 (fun W HS => ?y7_21) ?_
            case y7_21 => (go_simp; try with_reducible rfl)
            simp only [Act.put, List.getElem_toArray, List.getElem_cons_succ, List.getElem_cons_zero, List.setIfInBounds_toArray, List.set_cons_succ, List.set_cons_zero]
            refine wm_q2 (i := 9) (v := ?v7_22) (some 46) rfl rfl rfl HS2 (fun W HS => ?y7_22) ?_
            case y7_22 => (go_simp; try with_reducible rfl)
            simp only [Act.put, List.getElem_toArray, List.getElem_cons_succ, List.getElem_cons_zero, List.setIfInBounds_toArray, List.set_cons_succ, List.set_cons_zero]
            refine wm_q2 (i := 10) (v := ?v7_23) (some 47) rfl rfl rfl HS2 (fun W HS => ?y7_23) ?_
            case y7_23 => (go_simp; try with_reducible rfl)
            simp only [Act.put, List.getElem_toArray, List.getElem_cons_succ, List.getElem_cons_zero, List.setIfInBounds_toArray, List.set_cons_succ, List.set_cons_zero]
            refine wm_e0 (i := 12) rfl ?_
            go_wp2_with (first
              | ((with_reducible refine s_ 15 ?_); go_must (refine wl_alloc (dst := some 15) (cs := kc zeroKey) 23 _ Try.zeroValue23 kc_zero HM ?_; clear HM; intro b15 W HM)))
            refine ⟨HM.held (by simp), ?_⟩
            clear HS1 HS2
            have HS1 : Held w0 W [.blk b6 (kc bef) 23] := HM.held (by simp)
            have HS2 : Held w0 W [.blk b6 (kc bef) 23] := HM.held (by simp)
            refine wm_e0 (i := 13) rfl ?_
            go_wp2_with (first
              | ((with_reducible refine st_ 23 ?_); go_must ((refine wl_store_blk _ _ _ _ _ _ _ rfl rfl HM (.there (.there (.there .here))) (by rw [kc_size]; exact sz23) (by simp only [kc_size]) (kc_one _) ?_); clear HM; intro W HM)))
            refine ⟨HM.held (by simp), ?_⟩
            clear HS1 HS2
            have HS1 : Held w0 W [.blk b6 (kc bef) 23] := HM.held (by simp)
            have HS2 : Held w0 W [.blk b6 (kc bef) 23] := HM.held (by simp)
            refine wm_e0 (i := 14) rfl ?_
            go_wp2_with (first
              | ((with_reducible refine st_ 23 ?_); go_must ((refine wl_store_blk _ _ _ _ _ _ _ rfl rfl HM .here (by rw [kc_size]; exact sz23) (by simp only [kc_size]) (kc_one _) ?_); clear HM; intro W HM)))
            refine ⟨HM.held (by simp), ?_⟩
            clear HS1 HS2
            have HS1 : Held w0 W [.blk b6 (kc bef) 23] := HM.held (by simp)
            have HS2 : Held w0 W [.blk b6 (kc bef) 23] := HM.held (by simp)
            refine wm_nilN ?_
            clear HS1 HS2
          case' br20 =>
            refine wm_e0 (i := 12) rfl ?_
            go_wp2_with (first
              | ((with_reducible refine s_ 15 ?_); go_must (refine wl_alloc (dst := some 15) (cs := kc zeroKey) 23 _ Try.zeroValue23 kc_zero HM ?_; clear HM; intro b15 W HM)))
            refine ⟨HM.held (by simp), ?_⟩
            clear HS1 HS2
            have HS1 : Held w0 W [.blk b6 (kc bef) 23] := HM.held (by simp)
            have HS2 : Held w0 W [.blk b6 (kc bef) 23] := HM.held (by simp)
            refine wm_e0 (i := 7) rfl ?_
            go_wp2_with (first
              | (go_at_call 82; go_must (((with_reducible refine (ih (splitN n) (by omega) m wh _ _ _ u us _ h1 (by omega) (by omega) hpl2 (by omega) (hv44 _ hR) HM.f5).mono ?_)); rintro e W ⟨u1, vs1, R1, rfl, hT1, hX1, HM'⟩; clear HM; rename _ => HM; simp only [List.cons_append] at HM)))
            refine ⟨HM.held (by simp), ?_⟩
            clear HS1 HS2
            have HS1 : Held w0 W [.blk b6 (kc bef) 23] := HM.held (by simp)
            have HS2 : Held w0 W [.blk b6 (kc bef) 23] := HM.held (by simp)
            refine wm_q2 (i := 8) (v := ?v7_24) (some 37) rfl rfl rfl HS2 (fun W HS => ?y7_24) ?_
            case y7_24 => (go_simp; try with_reducible rfl)
            simp only [Act.put, List.getElem_toArray, List.getElem_cons_succ, List.getElem_cons_zero, List.setIfInBounds_toArray, List.set_cons_succ, List.set_cons_zero]
            refine wm_q2 (i := 9) (v := ?v7_25) (some 46) rfl rfl rfl HS2 (fun W HS => ?y7_25) ?_
            case y7_25 => (go_simp; try with_reducible rfl)
            simp only [Act.put, List.getElem_toArray, List.getElem_cons_succ, List.getElem_cons_zero, List.setIfInBounds_toArray, List.set_cons_succ, List.set_cons_zero]
            refine wm_q2 (i := 10) (v := ?v7_26) (some 47) rfl rfl rfl HS2 (fun W HS => ?y7_26) ?_
            case y7_26 => (go_simp; try with_reducible rfl)
            simp only [Act.put, List.getElem_toArray, List.getElem_cons_succ, List.getElem_cons_zero, List.setIfInBounds_toArray, List.set_cons_succ, List.set_cons_zero]
            refine wm_e0 (i := 13) rfl ?_
            go_wp2_with (first
              | ((with_reducible refine st_ 23 ?_); go_must ((refine wl_store_blk _ _ _ _ _ _ _ rfl rfl HM (.there (.there (.there .here))) (by rw [kc_size]; exact sz23) (by simp only [kc_size]) (kc_one _) ?_); clear HM; intro W HM)))
            refine ⟨HM.held (by simp), ?_⟩
            clear HS1 HS2
            have HS1 : Held w0 W [.blk b6 (kc bef) 23] := HM.held (by simp)
            have HS2 : Held w0 W [.blk b6 (kc bef) 23] := HM.held (by simp)
            refine wm_e0 (i := 14) rfl ?_
            go_wp2_with (first
              | ((with_reducible refine st_ 23 ?_); go_must ((refine wl_store_blk _ _ _ _ _ _ _ rfl rfl HM (.there (.there .here)) (by rw [kc_size]; exact sz23) (by simp only [kc_size]) (kc_one _) ?_); clear HM; intro W HM)))
            refine ⟨HM.held (by simp), ?_⟩
            clear HS1 HS2
            have HS1 : Held w0 W [.blk b6 (kc bef) 23] := HM.held (by simp)
            have HS2 : Held w0 W [.blk b6 (kc bef) 23] := HM.held (by simp)
            refine wm_nilN ?_
            clear HS1 HS2
        case' br13 =>
          refine wm_e0 (i := 12) rfl ?_
          go_wp2_with (first
            | ((with_reducible refine s_ 15 ?_); go_must (refine wl_alloc (dst := some 15) (cs := kc zeroKey) 23 _ Try.zeroValue23 kc_zero HM ?_; clear HM; intro b15 W HM)))
          refine ⟨HM.held (by simp), ?_⟩
          clear HS1 HS2
          have HS1 : Held w0 W [.blk b6 (kc bef) 23] := HM.held (by simp)
          have HS2 : Held w0 W [.blk b6 (kc bef) 23] := HM.held (by simp)
          refine wm_fork2 ?br27 ?br28
          case' br27 =>
            refine wm_e0 (i := 7) rfl ?_
            go_wp2_with (first
              | (go_at_call 82; go_must (((with_reducible refine (ih (splitN n) (by omega) m wh _ _ _ u us _ h1 (by omega) (by omega) hpl2 (by omega) (hv44 _ hR) HM.f4).mono ?_)); rintro e W ⟨u1, vs1, R1, rfl, hT1, hX1, HM'⟩; clear HM; rename _ => HM; simp only [List.cons_append] at HM)))
            refine ⟨HM.held (by simp), ?_⟩
            clear HS1 HS2
            have HS1 : Held w0 W [.blk b6 (kc bef) 23] := HM.held (by simp)
            have HS2 : Held w0 W [.blk b6 (kc bef) 23] := HM.held (by simp)
            refine wm_q2 (i := 8) (v := ?v7_29) (some 37) rfl rfl rfl HS2 (fun W HS => ?y7_29) ?_
            case y7_29 => (go_simp; try with_reducible rfl)
            simp only [Act.put, List.getElem_toArray, List.getElem_cons_succ, List.getElem_cons_zero, List.setIfInBounds_toArray, List.set_cons_succ, List.set_cons_zero]
            refine wm_q2 (i := 9) (v := ?v7_30) (some 46) rfl rfl rfl HS2 (fun W HS => ?y7_30) ?_
            case y7_30 => (go_simp; try with_reducible rfl)
            simp only [Act.put, List.getElem_toArray, List.getElem_cons_succ, List.getElem_cons_zero, List.setIfInBounds_toArray, List.set_cons_succ, List.set_cons_zero]
            refine wm_q2 (i := 10) (v := ?v7_31) (some 47) rfl rfl rfl HS2 (fun W HS => ?y7_31) ?_
            case y7_31 => (go_simp; try with_reducible rfl)
            simp only [Act.put, List.getElem_toArray, List.getElem_cons_succ, List.getElem_cons_zero, List.setIfInBounds_toArray, List.set_cons_succ, List.set_cons_zero]
            refine wm_e0 (i := 11) rfl ?_
            go_wp2_with (first
              | ((with_reducible refine s_ 14 ?_); go_must (refine wl_alloc (dst := some 14) (cs := kc zeroKey) 23 _ Try.zeroValue23 kc_zero HM ?_; clear HM; intro b14 W HM)))
            refine ⟨HM.held (by simp), ?_⟩
            clear HS1 HS2
            have HS1 : Held w0 W [.blk b6 (kc bef) 23] := HM.held (by simp)
            have HS2 : Held w0 W [.blk b6 (kc bef) 23] := HM.held (by simp)
            refine wm_e0 (i := 13) rfl ?_
            go_wp2_with (first
              | ((with_reducible refine st_ 23 ?_); go_must ((refine wl_store_blk _ _ _ _ _ _ _ rfl rfl HM .here (by rw [kc_size]; exact sz23) (by simp only [kc_size]) (kc_one _) ?_); clear HM; intro W HM)))
            refine ⟨HM.held (by simp), ?_⟩
            clear HS1 HS2
            have HS1 : Held w0 W [.blk b6 (kc bef) 23] := HM.held (by simp)
            have HS2 : Held w0 W [.blk b6 (kc bef) 23] := HM.held (by simp)
            refine wm_e0 (i := 14) rfl ?_
            go_wp2_with (first
              | ((with_reducible refine st_ 23 ?_); go_must ((refine wl_store_blk _ _ _ _ _ _ _ rfl rfl HM (.there (.there (.there .here))) (by rw [kc_size]; exact sz23) (by simp only [kc_size]) (kc_one _) ?_); clear HM; intro W HM)))
            refine ⟨HM.held (by simp), ?_⟩
            clear HS1 HS2
            have HS1 : Held w0 W [.blk b6 (kc bef) 23] := HM.held (by simp)
            have HS2 : Held w0 W [.blk b6 (kc bef) 23] := HM.held (by simp)
            refine wm_nilN ?_
            clear HS1 HS2
          case' br28 =>
            refine wm_e0 (i := 11) rfl ?_
            go_wp2_with (first
              | ((with_reducible refine s_ 14 ?_); go_must (refine wl_alloc (dst := some 14) (cs := kc zeroKey) 23 _ Try.zeroValue23 kc_zero HM ?_; clear HM; intro b14 W HM)))
            refine ⟨HM.held (by simp), ?_⟩
            clear HS1 HS2
            have HS1 : Held w0 W [.blk b6 (kc bef) 23] := HM.held (by simp)
            have HS2 : Held w0 W [.blk b6 (kc bef) 23] := HM.held (by simp)
            refine wm_e0 (i := 7) rfl ?_
            go_wp2_with (first
              | (go_at_call 82; go_must (((with_reducible refine (ih (splitN n) (by omega) m wh _ _ _ u us _ h1 (by omega) (by omega) hpl2 (by omega) (hv44 _ hR) HM.f5).mono ?_)); rintro e W ⟨u1, vs1, R1, rfl, hT1, hX1, HM'⟩; clear HM; rename _ => HM; simp only [List.cons_append] at HM)))
            refine ⟨HM.held (by simp), ?_⟩
            clear HS1 HS2
            have HS1 : Held w0 W [.blk b6 (kc bef) 23] := HM.held (by simp)
            have HS2 : Held w0 W [.blk b6 (kc bef) 23] := HM.held (by simp)
            refine wm_q2 (i := 8) (v := ?v7_32) (some 37) rfl rfl rfl HS2 (fun W HS => ?y7_32) ?_
            case y7_32 => (go_simp; try with_reducible rfl)
            simp only [Act.put, List.getElem_toArray, List.getElem_cons_succ, List.getElem_cons_zero, List.setIfInBounds_toArray, List.set_cons_succ, List.set_cons_zero]
            refine wm_q2 (i := 9) (v := ?v7_33) (some 46) rfl rfl rfl HS2 (fun W HS => ?y7_33) ?_
            case y7_33 => (go_simp; try with_reducible rfl)
            simp only [Act.put, List.getElem_toArray, List.getElem_cons_succ, List.getElem_cons_zero, List.setIfInBounds_toArray, List.set_cons_succ, List.set_cons_zero]
            refine wm_q2 (i := 10) (v := ?v7_34) (some 47) rfl rfl rfl HS2 (fun W HS => ?y7_34) ?_
            case y7_34 => (go_simp; try with_reducible rfl)
            simp only [Act.put, List.getElem_toArray, List.getElem_cons_succ, List.getElem_cons_zero, List.setIfInBounds_toArray, List.set_cons_succ, List.set_cons_zero]
            refine wm_e0 (i := 13) rfl ?_
            go_wp2_with (first
              | ((with_reducible refine st_ 23 ?_); go_must ((refine wl_store_blk _ _ _ _ _ _ _ rfl rfl HM (.there (.there .here)) (by rw [kc_size]; exact sz23) (by simp only [kc_size]) (kc_one _) ?_); clear HM; intro W HM)))
            refine ⟨HM.held (by simp), ?_⟩
            clear HS1 HS2
            have HS1 : Held w0 W [.blk b6 (kc bef) 23] := HM.held (by simp)
            have HS2 : Held w0 W [.blk b6 (kc bef) 23] := HM.held (by simp)
            refine wm_e0 (i := 14) rfl ?_
            go_wp2_with (first
              | ((with_reducible refine st_ 23 ?_); go_must ((refine wl_store_blk _ _ _ _ _ _ _ rfl rfl HM (.there (.there (.there .here))) (by rw [kc_size]; exact sz23) (by simp only [kc_size]) (kc_one _) ?_); clear HM; intro W HM)))
            refine ⟨HM.held (by simp), ?_⟩
            clear HS1 HS2
            have HS1 : Held w0 W [.blk b6 (kc bef) 23] := HM.held (by simp)
            have HS2 : Held w0 W [.blk b6 (kc bef) 23] := HM.held (by simp)
            refine wm_nilN ?_
            clear HS1 HS2
        all_goals
          replace HM : Mem w0 W (.blk b #[u1] 119 :: .row u1 24 1 (us ++ vs1).length (valsT (us ++ vs1)) :: .blk b14 (kc (growA bef (splitN n) m (p.take (p.length - 1)))) 23 :: .blk b15 (kc (growB bef (splitN n) m (p.take (p.length - 1)))) 23 :: .blk b11 (kc zeroKey) 23 :: .blk b10 (kc zeroKey) 23 :: .blk b6 (kc bef) 23 :: (L ++ R1)) := by
            first | exact HM | exact HM.s23 | exact HM.f1 | exact HM.f1.s23 | exact HM.f2 | exact HM.f2.s23
          rw [ht] at hT1 hz2
          go_wp2_with (fail)
          replace HM := HM.drew
          refine wp_region_mixN (fun W => Held w0 W [.blk b14 (kc (growA bef (splitN n) m (p.take (p.length - 1)))) 23, .blk b15 (kc (growB bef (splitN n) m (p.take (p.length - 1)))) 23]) (fun W => Held w0 W [.blk b14 (kc (growA bef (splitN n) m (p.take (p.length - 1)))) 23, .blk b15 (kc (growB bef (splitN n) m (p.take (p.length - 1)))) 23]) (.cons (2, 0) (.cons (2, 1) (.cons (2, 2) (.cons (2, 3) (.cons (2, 4) (.cons (2, 5) (.cons (2, 6) (.cons (0, 7) (.cons (0, 8) (.cons (0, 9) (.cons (0, 10) .nil))))))))))) [] (by kernel_rfl) (by kernel_rfl) (by kernel_rfl) (fun W h => Held.weak h (by simp)) (HM.held (by simp)) ?_
          revert HM; generalize World.drew _ = W; intro HM
          have HS1 : Held w0 W [.blk b14 (kc (growA bef (splitN n) m (p.take (p.length - 1)))) 23, .blk b15 (kc (growB bef (splitN n) m (p.take (p.length - 1)))) 23] := HM.held (by simp)
          have HS2 : Held w0 W [.blk b14 (kc (growA bef (splitN n) m (p.take (p.length - 1)))) 23, .blk b15 (kc (growB bef (splitN n) m (p.take (p.length - 1)))) 23] := HM.held (by simp)
          refine wm_q2 (i := 0) (some 48) rfl rfl rfl HS2 (fun W HS => (by ((refine ry_load_blk _ _ _ _ _ _ HS ?_ m0 Try.underlying23 rfl (by rw [kc_size]; exact sz23); rfl)))) ?_
          simp only [Act.put, List.getElem_toArray, List.getElem_cons_succ, List.getElem_cons_zero, List.setIfInBounds_toArray, List.set_cons_succ, List.set_cons_zero]
          refine wm_q2 (i := 1) (v := ?v8_36) (some 49) rfl rfl rfl HS2 (fun W HS => ?y8_36) ?_
          case y8_36 => (go_simp; try with_reducible rfl)
          simp only [Act.put, List.getElem_toArray, List.getElem_cons_succ, List.getElem_cons_zero, List.setIfInBounds_toArray, List.set_cons_succ, List.set_cons_zero]
          refine wm_q2 (i := 2) (some 50) rfl rfl rfl HS2 (fun W HS => (by ((refine ry_load_blk _ _ _ _ _ _ HS ?_ m1 Try.underlying23 rfl (by rw [kc_size]; exact sz23); rfl)))) ?_
          simp only [Act.put, List.getElem_toArray, List.getElem_cons_succ, List.getElem_cons_zero, List.setIfInBounds_toArray, List.set_cons_succ, List.set_cons_zero]
          refine wm_q2 (i := 3) (v := ?v8_38) (some 51) rfl rfl rfl HS2 (fun W HS => ?y8_38) ?_
          case y8_38 => (go_simp; try with_reducible rfl)
          simp only [Act.put, List.getElem_toArray, List.getElem_cons_succ, List.getElem_cons_zero, List.setIfInBounds_toArray, List.set_cons_succ, List.set_cons_zero]
          refine wm_q2 (i := 4) (v := ?v8_39) (some 52) rfl rfl rfl HS2 (fun W HS => ?y8_39) ?_
          case y8_39 => (go_simp; try with_reducible rfl)
          simp only [Act.put, List.getElem_toArray, List.getElem_cons_succ, List.getElem_cons_zero, List.setIfInBounds_toArray, List.set_cons_succ, List.set_cons_zero]
          (refine wm_q2x (i := 5) (some 53) rfl rfl rfl HS2 (ry_index _ 23 _ _ _ _ _ _ _ (fun W => Held w0 W [.blk b14 (kc (growA bef (splitN n) m (p.take (p.length - 1)))) 23, .blk b15 (kc (growB bef (splitN n) m (p.take (p.length - 1)))) 23]) W encK_len Try.underlying40 sz23 HS2 (fun W HS => hR.held HS) rfl rfl (by omega) (by first | assumption | simp [*])) ?_); intro p53 hp53
          simp only [Act.put, List.getElem_toArray, List.getElem_cons_succ, List.getElem_cons_zero, List.setIfInBounds_toArray, List.set_cons_succ, List.set_cons_zero]
          refine wm_q2 (i := 6) (some 54) rfl rfl rfl HS2 (fun W HS => (by refine ry_load_key _ _ _ _ ?_ (hp53 W HS) Try.underlying23 sz23; rfl)) ?_
          simp only [Act.put, List.getElem_toArray, List.getElem_cons_succ, List.getElem_cons_zero, List.setIfInBounds_toArray, List.set_cons_succ, List.set_cons_zero]
          refine wm_e0 (i := 7) rfl ?_
          go_wp2_with (first
            | (go_at_call 68; go_must (((with_reducible refine (nodeTextT _ _ _).mono ?_)); rintro e W ⟨q, rfl, HM'⟩; replace HM := HM.join HM'; clear HM'; simp only [List.cons_append, List.nil_append] at HM)))
          refine ⟨HM.held (by simp), ?_⟩
          clear HS1 HS2
          have HS1 : Held w0 W [.blk b14 (kc (growA bef (splitN n) m (p.take (p.length - 1)))) 23, .blk b15 (kc (growB bef (splitN n) m (p.take (p.length - 1)))) 23] := HM.held (by simp)
          have HS2 : Held w0 W [.blk b14 (kc (growA bef (splitN n) m (p.take (p.length - 1)))) 23, .blk b15 (kc (growB bef (splitN n) m (p.take (p.length - 1)))) 23] := HM.held (by simp)
          refine wm_e0 (i := 8) rfl ?_
          go_wp2_with (first
            | (go_at_call 65; go_must (((with_reducible refine (take_c w0 _ b u1 q (us ++ vs1) _ _ HM.f1 m0 (by rw [textNode_len]; decide) (by have := hT1.len; rw [List.length_append]; omega)).mono ?_)); rintro e W ⟨u2, rfl, HM'⟩; clear HM; rename _ => HM)))
          refine ⟨HM.held (by simp), ?_⟩
          clear HS1 HS2
          have HS1 : Held w0 W [.blk b14 (kc (growA bef (splitN n) m (p.take (p.length - 1)))) 23, .blk b15 (kc (growB bef (splitN n) m (p.take (p.length - 1)))) 23] := HM.held (by simp)
          have HS2 : Held w0 W [.blk b14 (kc (growA bef (splitN n) m (p.take (p.length - 1)))) 23, .blk b15 (kc (growB bef (splitN n) m (p.take (p.length - 1)))) 23] := HM.held (by simp)
          refine wm_e0 (i := 9) rfl ?_
          go_wp2_with (first
            | ((with_reducible refine st_ 23 ?_); go_must ((refine wl_store_blk _ _ _ _ _ _ _ rfl rfl HM (.there (.there (.there (.there (.there (.there .here)))))) (by rw [kc_size]; exact sz23) (by simp only [kc_size]) (kc_one _) ?_); clear HM; intro W HM)))
          refine ⟨HM.held (by simp), ?_⟩
          clear HS1 HS2
          have HS1 : Held w0 W [.blk b14 (kc (growA bef (splitN n) m (p.take (p.length - 1)))) 23, .blk b15 (kc (growB bef (splitN n) m (p.take (p.length - 1)))) 23] := HM.held (by simp)
          have HS2 : Held w0 W [.blk b14 (kc (growA bef (splitN n) m (p.take (p.length - 1)))) 23, .blk b15 (kc (growB bef (splitN n) m (p.take (p.length - 1)))) 23] := HM.held (by simp)
          refine wm_e0 (i := 10) rfl ?_
          go_wp2_with (first
            | ((with_reducible refine st_ 23 ?_); go_must ((refine wl_store_blk _ _ _ _ _ _ _ rfl rfl HM (.there (.there (.there (.there (.there .here))))) (by rw [kc_size]; exact sz23) (by simp only [kc_size]) (kc_one _) ?_); clear HM; intro W HM)))
          refine ⟨HM.held (by simp), ?_⟩
          clear HS1 HS2
          have HS1 : Held w0 W [.blk b14 (kc (growA bef (splitN n) m (p.take (p.length - 1)))) 23, .blk b15 (kc (growB bef (splitN n) m (p.take (p.length - 1)))) 23] := HM.held (by simp)
          have HS2 : Held w0 W [.blk b14 (kc (growA bef (splitN n) m (p.take (p.length - 1)))) 23, .blk b15 (kc (growB bef (splitN n) m (p.take (p.length - 1)))) 23] := HM.held (by simp)
          refine wm_nilN ?_
          clear HS1 HS2
          go_wp2_with (fail)
          refine ret2 rfl (by (exact res_row HM rfl m6 Try.underlying23 rfl (by rw [kc_size]; exact sz23))) (by (exact res_row HM rfl m5 Try.underlying23 rfl (by rw [kc_size]; exact sz23))) rfl ?_
          have H := (HM.sub (.cons_cons _ (.cons_cons _ (.cons_cons _ (.cons _ (.cons _ (.cons _ (.cons _ (.cons _ (.refl _)))))))))).tuck1
          rw [List.append_assoc us] at H
          exact ⟨u2, _, _, rfl, hT1.app (TxIs.one q _), (Tx.inr [rowT _] hX1).app (Tx.one m0), H⟩
      · have hb2 : ¬ (m : Int) ≤ ((splitN n : Nat) : Int) := by omega
        have hw1 : IntKind.i64.wrap ((n : Int) - ((splitN n : Nat) : Int)) = ((n - splitN n : Nat) : Int) := by rw [IntKind.wrap_i64]; omega
        have hw2 : IntKind.i64.wrap ((m : Int) - ((splitN n : Nat) : Int)) = ((m - splitN n : Nat) : Int) := by rw [IntKind.wrap_i64]; omega
        have hpl2 : FitgIs (p.take ((p.length : Int) - 1).toNat).length (n - splitN n) (m - splitN n) false := by
          rw [FitgIs, List.length_take, ht, hpl.eq, partsN_hi n m wh h1 (by omega) hlo]; omega
        have hz2 := growT_len (n - splitN n) bef (m - splitN n) (p.take ((p.length : Int) - 1).toNat)
        obtain ⟨e1, e2, e3⟩ := grow_hi bef n m p h1 (by omega) hlo
        rw [e1, e2, e3]
        clear e1 e2 e3
        go_enter Try.func82, Try.ntmps82
        go_wp2_with (first
          | ((with_reducible refine s_ 6 ?_); go_must (refine wl_box (dst := some 6) (cs := kc bef) _ _ _ rfl rfl HM ?_; clear HM; intro b6 W HM))
          | ((with_reducible refine s_ 10 ?_); go_must (refine wl_alloc (dst := some 10) (cs := kc zeroKey) 23 _ Try.zeroValue23 kc_zero HM ?_; clear HM; intro b10 W HM))
          | ((with_reducible refine s_ 11 ?_); go_must (refine wl_alloc (dst := some 11) (cs := kc zeroKey) 23 _ Try.zeroValue23 kc_zero HM ?_; clear HM; intro b11 W HM))
          | ((with_reducible refine s_ 32 ?_); go_must ((refine wl_len (dst := some 32) _ _ _ _ 23 Try.underlying40 rfl (hR.mem HM) ?_)))
          | (go_at_call 72; go_must (((with_reducible refine (split_c _ (by omega) (by omega) _).mono ?_)); rintro e W ⟨rfl, HM'⟩; replace HM := HM.keep HM'.below; clear HM')))
        replace HM := HM.drew
        refine wp_region_mixN (fun W => Held w0 W [.blk b6 (kc bef) 23]) (fun W => Held w0 W [.blk b6 (kc bef) 23]) (.cons (2, 0) (.cons (2, 1) (.cons (2, 2) (.cons (2, 3) (.cons (2, 4) (.cons (2, 5) (.cons (2, 6) (.cons (2, 7) (.cons (2, 8) (.cons (2, 9) (.cons (2, 10) (.fork3 11 (.cons (2, 12) (.cons (2, 13) (.cons (2, 14) (.fork2 15 (.cons (0, 16) (.cons (0, 17) (.cons (0, 18) .nil))) 16 (.cons (0, 15) (.cons (0, 17) (.cons (0, 18) .nil))))))) 15 (.fork2 11 (.cons (2, 12) (.cons (2, 13) (.cons (2, 14) (.cons (0, 16) (.cons (0, 17) (.cons (0, 18) .nil)))))) 16 (.cons (0, 11) (.cons (2, 12) (.cons (2, 13) (.cons (2, 14) (.cons (0, 17) (.cons (0, 18) .nil))))))) 16 (.fork2 11 (.cons (2, 12) (.cons (2, 13) (.cons (2, 14) (.cons (0, 15) (.cons (0, 17) (.cons (0, 18) .nil)))))) 15 (.cons (0, 11) (.cons (2, 12) (.cons (2, 13) (.cons (2, 14) (.cons (0, 17) (.cons (0, 18) .nil))))))))))))))))))) [] (by kernel_rfl) (by kernel_rfl) (by kernel_rfl) (fun W h => Held.weak h (by simp)) (HM.held (by simp)) ?_
        revert HM; generalize World.drew _ = W; intro HM
        have HS1 : Held w0 W [.blk b6 (kc bef) 23] := HM.held (by simp)
        have HS2 : Held w0 W [.blk b6 (kc bef) 23] := HM.held (by simp)
        refine wm_q2 (i := 0) (v := ?v9_41) (some 58) rfl rfl rfl HS2 (fun W HS => ?y9_41) ?_
        case y9_41 => (go_simp; try with_reducible rfl)
        simp only [Act.put, List.getElem_toArray, List.getElem_cons_succ, List.getElem_cons_zero, List.setIfInBounds_toArray, List.set_cons_succ, List.set_cons_zero]
        refine wm_q2 (i := 1) (some 59) rfl rfl rfl HS2 (fun W HS => (by ((refine ry_load_blk _ _ _ _ _ _ HS ?_ m0 Try.underlying23 rfl (by rw [kc_size]; exact sz23); rfl)))) ?_
        simp only [Act.put, List.getElem_toArray, List.getElem_cons_succ, List.getElem_cons_zero, List.setIfInBounds_toArray, List.set_cons_succ, List.set_cons_zero]
        refine wm_q2 (i := 2) (v := ?v9_43) (some 60) rfl rfl rfl HS2 (fun W HS => ?y9_43) ?_
        case y9_43 => (go_simp; try with_reducible rfl)
        simp only [Act.put, List.getElem_toArray, List.getElem_cons_succ, List.getElem_cons_zero, List.setIfInBounds_toArray, List.set_cons_succ, List.set_cons_zero]
        refine wm_q2 (i := 3) (v := ?v9_44) (some 61) rfl rfl rfl HS2 (fun W HS => ?y9_44) ?_
        case y9_44 => (go_simp; try with_reducible rfl)
        simp only [Act.put, List.getElem_toArray, List.getElem_cons_succ, List.getElem_cons_zero, List.setIfInBounds_toArray, List.set_cons_succ, List.set_cons_zero]
        refine wm_q2 (i := 4) (v := ?v9_45) (some 62) rfl rfl rfl HS2 (fun W HS => ?y9_45) ?_
        case y9_45 => (go_simp; try with_reducible rfl)
        simp only [Act.put, List.getElem_toArray, List.getElem_cons_succ, List.getElem_cons_zero, List.setIfInBounds_toArray, List.set_cons_succ, List.set_cons_zero]
        refine wm_q2 (i := 5) (v := ?v9_46) (some 63) rfl rfl rfl HS2 (fun W HS => ?y9_46) ?_
        case y9_46 => (go_simp; try with_reducible rfl)
        simp only [Act.put, List.getElem_toArray, List.getElem_cons_succ, List.getElem_cons_zero, List.setIfInBounds_toArray, List.set_cons_succ, List.set_cons_zero]
        refine wm_q2 (i := 6) (v := ?v9_47) (some 64) rfl rfl rfl HS2 (fun W HS => ?y9_47) ?_
        case y9_47 => (go_simp; try with_reducible rfl)
        simp only [Act.put, List.getElem_toArray, List.getElem_cons_succ, List.getElem_cons_zero, List.setIfInBounds_toArray, List.set_cons_succ, List.set_cons_zero]
        refine wm_q2 (i := 7) (v := ?v9_48) (some 65) rfl rfl rfl HS2 (fun W HS => ?y9_48) ?_
        case y9_48 => (go_simp; try with_reducible rfl)
        simp only [Act.put, List.getElem_toArray, List.getElem_cons_succ, List.getElem_cons_zero, List.setIfInBounds_toArray, List.set_cons_succ, List.set_cons_zero]
        refine wm_q2 (i := 8) (v := ?v9_49) (some 66) rfl rfl rfl HS2 (fun W HS => ?y9_49) ?_
        case y9_49 => (go_simp; try with_reducible rfl)
        simp only [Act.put, List.getElem_toArray, List.getElem_cons_succ, List.getElem_cons_zero, List.setIfInBounds_toArray, List.set_cons_succ, List.set_cons_zero]
        refine wm_q2 (i := 9) (v := ?v9_50) (some 67) rfl rfl rfl HS2 (fun W HS => ?y9_50) ?_
        case y9_50 => (go_simp; try with_reducible rfl)
        simp only [Act.put, List.getElem_toArray, List.getElem_cons_succ, List.getElem_cons_zero, List.setIfInBounds_toArray, List.set_cons_succ, List.set_cons_zero]
        (refine wm_q2x (i := 10) (some 68) rfl rfl rfl HS2 (ry_slice_hi _ 23 _ _ _ _ _ _ encK_len Try.underlying40 sz23 (hR.mem HM) rfl rfl (by omega) (by omega)) ?_); intro v68 hv68
        simp only [Act.put, List.getElem_toArray, List.getElem_cons_succ, List.getElem_cons_zero, List.setIfInBounds_toArray, List.set_cons_succ, List.set_cons_zero]
        refine wm_fork3 ?br51 ?br52 ?br53
        case' br51 =>
          refine wm_e0 (i := 11) rfl ?_
          go_wp2_with (first
            | (go_at_call 82; go_must (((with_reducible refine (ih (n - splitN n) (by omega) (m - splitN n) false _ _ _ u us _ (by omega) (by omega) (by omega) hpl2 (by omega) (hv68 _ hR) HM.f3).mono ?_)); rintro e W ⟨u1, vs1, R1, rfl, hT1, hX1, HM'⟩; clear HM; rename _ => HM; simp only [List.cons_append] at HM)))
          refine ⟨HM.held (by simp), ?_⟩
          clear HS1 HS2
          have HS1 : Held w0 W [.blk b6 (kc bef) 23] := HM.held (by simp)
          have HS2 : Held w0 W [.blk b6 (kc bef) 23] := HM.held (by simp)
          refine wm_q2 (i := 12) (v := ?v9_54) (some 57) rfl rfl rfl HS2 (fun W HS => ?y9_54) ?_
          case y9_54 => (go_simp; try with_reducible rfl)
          simp only [Act.put, List.getElem_toArray, List.getElem_cons_succ, List.getElem_cons_zero, List.setIfInBounds_toArray, List.set_cons_succ, List.set_cons_zero]
          refine wm_q2 (i := 13) (v := ?v9_55) (some 70) rfl rfl rfl HS2 (fun W HS => ?y9_55) ?_
          case y9_55 => (go_simp; try with_reducible rfl)
          simp only [Act.put, List.getElem_toArray, List.getElem_cons_succ, List.getElem_cons_zero, List.setIfInBounds_toArray, List.set_cons_succ, List.set_cons_zero]
          refine wm_q2 (i := 14) (v := ?v9_56) (some 71) rfl rfl rfl HS2 (fun W HS => ?y9_56) ?_
          case y9_56 => (go_simp; try with_reducible rfl)
          simp only [Act.put, List.getElem_toArray, List.getElem_cons_succ, List.getElem_cons_zero, List.setIfInBounds_toArray, List.set_cons_succ, List.set_cons_zero]
          refine wm_fork2 ?br57 ?br58
          case' br57 =>
            refine wm_e0 (i := 15) rfl ?_
            go_wp2_with (first
              | ((with_reducible refine s_ 16 ?_); go_must (refine wl_alloc (dst := some 16) (cs := kc zeroKey) 23 _ Try.zeroValue23 kc_zero HM ?_; clear HM; intro b16 W HM)))
            refine ⟨HM.held (by simp), ?_⟩
            clear HS1 HS2
            have HS1 : Held w0 W [.blk b6 (kc bef) 23] := HM.held (by simp)
            have HS2 : Held w0 W [.blk b6 (kc bef) 23] := HM.held (by simp)
            refine wm_e0 (i := 16) rfl ?_
            go_wp2_with (first
              | ((with_reducible refine s_ 17 ?_); go_must (refine wl_alloc (dst := some 17) (cs := kc zeroKey) 23 _ Try.zeroValue23 kc_zero HM ?_; clear HM; intro b17 W HM)))
            refine ⟨HM.held (by simp), ?_⟩
            clear HS1 HS2
            have HS1 : Held w0 W [.blk b6 (kc bef) 23] := HM.held (by simp)
            have HS2 : Held w0 W [.blk b6 (kc bef) 23] := HM.held (by simp)
            refine wm_e0 (i := 17) rfl ?_
            go_wp2_with (first
              | ((with_reducible refine st_ 23 ?_); go_must ((refine wl_store_blk _ _ _ _ _ _ _ rfl rfl HM (.there .here) (by rw [kc_size]; exact sz23) (by simp only [kc_size]) (kc_one _) ?_); clear HM; intro W HM)))
            refine ⟨HM.held (by simp), ?_⟩
            clear HS1 HS2
            have HS1 : Held w0 W [.blk b6 (kc bef) 23] := HM.held (by simp)
            have HS2 : Held w0 W [.blk b6 (kc bef) 23] := HM.held (by simp)
            refine wm_e0 (i := 18) rfl ?_
            go_wp2_with (first
              | ((with_reducible refine st_ 23 ?_); go_must ((refine wl_store_blk _ _ _ _ _ _ _ rfl rfl HM .here (by rw [kc_size]; exact sz23) (by simp only [kc_size]) (kc_one _) ?_); clear HM; intro W HM)))
            refine ⟨HM.held (by simp), ?_⟩
            clear HS1 HS2
            have HS1 : Held w0 W [.blk b6 (kc bef) 23] := HM.held (by simp)
            have HS2 : Held w0 W [.blk b6 (kc bef) 23] := HM.held (by simp)
            refine wm_nilN ?_
            clear HS1 HS2
          case' br58 =>
            refine wm_e0 (i := 16) rfl ?_
            go_wp2_with (first
              | ((with_reducible refine s_ 17 ?_); go_must (refine wl_alloc (dst := some 17) (cs := kc zeroKey) 23 _ Try.zeroValue23 kc_zero HM ?_; clear HM; intro b17 W HM)))
            refine ⟨HM.held (by simp), ?_⟩
            clear HS1 HS2
            have HS1 : Held w0 W [.blk b6 (kc bef) 23] := HM.held (by simp)
            have HS2 : Held w0 W [.blk b6 (kc bef) 23] := HM.held (by simp)
            refine wm_e0 (i := 15) rfl ?_
            go_wp2_with (first
              | ((with_reducible refine s_ 16 ?_); go_must (refine wl_alloc (dst := some 16) (cs := kc zeroKey) 23 _ Try.zeroValue23 kc_zero HM ?_; clear HM; intro b16 W HM)))
            refine ⟨HM.held (by simp), ?_⟩
            clear HS1 HS2
            have HS1 : Held w0 W [.blk b6 (kc bef) 23] := HM.held (by simp)
            have HS2 : Held w0 W [.blk b6 (kc bef) 23] := HM.held (by simp)
            refine wm_e0 (i := 17) rfl ?_
            go_wp2_with (first
              | ((with_reducible refine st_ 23 ?_); go_must ((refine wl_store_blk _ _ _ _ _ _ _ rfl rfl HM .here (by rw [kc_size]; exact sz23) (by simp only [kc_size]) (kc_one _) ?_); clear HM; intro W HM)))
            refine ⟨HM.held (by simp), ?_⟩
            clear HS1 HS2
            have HS1 : Held w0 W [.blk b6 (kc bef) 23] := HM.held (by simp)
            have HS2 : Held w0 W [.blk b6 (kc bef) 23] := HM.held (by simp)
            refine wm_e0 (i := 18) rfl ?_
            go_wp2_with (first
              | ((with_reducible refine st_ 23 ?_); go_must ((refine wl_store_blk _ _ _ _ _ _ _ rfl rfl HM (.there .here) (by rw [kc_size]; exact sz23) (by simp only [kc_size]) (kc_one _) ?_); clear HM; intro W HM)))
            refine ⟨HM.held (by simp), ?_⟩
            clear HS1 HS2
            have HS1 : Held w0 W [.blk b6 (kc bef) 23] := HM.held (by simp)
            have HS2 : Held w0 W [.blk b6 (kc bef) 23] := HM.held (by simp)
            refine wm_nilN ?_
            clear HS1 HS2
        case' br52 =>
          refine wm_e0 (i := 15) rfl ?_
          go_wp2_with (first
            | ((with_reducible refine s_ 16 ?_); go_must (refine wl_alloc (dst := some 16) (cs := kc zeroKey) 23 _ Try.zeroValue23 kc_zero HM ?_; clear HM; intro b16 W HM)))
          refine ⟨HM.held (by simp), ?_⟩
          clear HS1 HS2
          have HS1 : Held w0 W [.blk b6 (kc bef) 23] := HM.held (by simp)
          have HS2 : Held w0 W [.blk b6 (kc bef) 23] := HM.held (by simp)
          refine wm_fork2 ?br59 ?br60
          case' br59 =>
            refine wm_e0 (i := 11) rfl ?_
            go_wp2_with (first
              | (go_at_call 82; go_must (((with_reducible refine (ih (n - splitN n) (by omega) (m - splitN n) false _ _ _ u us _ (by omega) (by omega) (by omega) hpl2 (by omega) (hv68 _ hR) HM.f4).mono ?_)); rintro e W ⟨u1, vs1, R1, rfl, hT1, hX1, HM'⟩; clear HM; rename _ => HM; simp only [List.cons_append] at HM)))
            refine ⟨HM.held (by simp), ?_⟩
            clear HS1 HS2
            have HS1 : Held w0 W [.blk b6 (kc bef) 23] := HM.held (by simp)
            have HS2 : Held w0 W [.blk b6 (kc bef) 23] := HM.held (by simp)
            refine wm_q2 (i := 12) (v := ?v9_61) (some 57) rfl rfl rfl HS2 (fun W HS => ?y9_61) ?_
            case y9_61 => (go_simp; try with_reducible rfl)
            simp only [Act.put, List.getElem_toArray, List.getElem_cons_succ, List.getElem_cons_zero, List.setIfInBounds_toArray, List.set_cons_succ, List.set_cons_zero]
            refine wm_q2 (i := 13) (v := ?v9_62) (some 70) rfl rfl rfl HS2 (fun W HS => ?y9_62) ?_
            case y9_62 => (go_simp; try with_reducible rfl)
            simp only [Act.put, List.getElem_toArray, List.getElem_cons_succ, List.getElem_cons_zero, List.setIfInBounds_toArray, List.set_cons_succ, List.set_cons_zero]
            refine wm_q2 (i := 14) (v := ?v9_63) (some 71) rfl rfl rfl HS2 (fun W HS => ?y9_63) ?_
            case y9_63 => (go_simp; try with_reducible rfl)
            simp only [Act.put, List.getElem_toArray, List.getElem_cons_succ, List.getElem_cons_zero, List.setIfInBounds_toArray, List.set_cons_succ, List.set_cons_zero]
            refine wm_e0 (i := 16) rfl ?_
            go_wp2_with (first
              | ((with_reducible refine s_ 17 ?_); go_must (refine wl_alloc (dst := some 17) (cs := kc zeroKey) 23 _ Try.zeroValue23 kc_zero HM ?_; clear HM; intro b17 W HM)))
            refine ⟨HM.held (by simp), ?_⟩
            clear HS1 HS2
            have HS1 : Held w0 W [.blk b6 (kc bef) 23] := HM.held (by simp)
            have HS2 : Held w0 W [.blk b6 (kc bef) 23] := HM.held (by simp)
            refine wm_e0 (i := 17) rfl ?_
            go_wp2_with (first
              | ((with_reducible refine st_ 23 ?_); go_must ((refine wl_store_blk _ _ _ _ _ _ _ rfl rfl HM (.there (.there (.there .here))) (by rw [kc_size]; exact sz23) (by simp only [kc_size]) (kc_one _) ?_); clear HM; intro W HM)))
            refine ⟨HM.held (by simp), ?_⟩
            clear HS1 HS2
            have HS1 : Held w0 W [.blk b6 (kc bef) 23] := HM.held (by simp)
            have HS2 : Held w0 W [.blk b6 (kc bef) 23] := HM.held (by simp)
            refine wm_e0 (i := 18) rfl ?_
            go_wp2_with (first
              | ((with_reducible refine st_ 23 ?_); go_must ((refine wl_store_blk _ _ _ _ _ _ _ rfl rfl HM .here (by rw [kc_size]; exact sz23) (by simp only [kc_size]) (kc_one _) ?_); clear HM; intro W HM)))
            refine ⟨HM.held (by simp), ?_⟩
            clear HS1 HS2
            have HS1 : Held w0 W [.blk b6 (kc bef) 23] := HM.held (by simp)
            have HS2 : Held w0 W [.blk b6 (kc bef) 23] := HM.held (by simp)
            refine wm_nilN ?_
            clear HS1 HS2
          case' br60 =>
            refine wm_e0 (i := 16) rfl ?_
            go_wp2_with (first
              | ((with_reducible refine s_ 17 ?_); go_must (refine wl_alloc (dst := some 17) (cs := kc zeroKey) 23 _ Try.zeroValue23 kc_zero HM ?_; clear HM; intro b17 W HM)))
            refine ⟨HM.held (by simp), ?_⟩
            clear HS1 HS2
            have HS1 : Held w0 W [.blk b6 (kc bef) 23] := HM.held (by simp)
            have HS2 : Held w0 W [.blk b6 (kc bef) 23] := HM.held (by simp)
            refine wm_e0 (i := 11) rfl ?_
            go_wp2_with (first
              | (go_at_call 82; go_must (((with_reducible refine (ih (n - splitN n) (by omega) (m - splitN n) false _ _ _ u us _ (by omega) (by omega) (by omega) hpl2 (by omega) (hv68 _ hR) HM.f5).mono ?_)); rintro e W ⟨u1, vs1, R1, rfl, hT1, hX1, HM'⟩; clear HM; rename _ => HM; simp only [List.cons_append] at HM)))
            refine ⟨HM.held (by simp), ?_⟩
            clear HS1 HS2
            have HS1 : Held w0 W [.blk b6 (kc bef) 23] := HM.held (by simp)
            have HS2 : Held w0 W [.blk b6 (kc bef) 23] := HM.held (by simp)
            refine wm_q2 (i := 12) (v := ?v9_64) (some 57) rfl rfl rfl HS2 (fun W HS => ?y9_64) ?_
            case y9_64 => (go_simp; try with_reducible rfl)
            simp only [Act.put, List.getElem_toArray, List.getElem_cons_succ, List.getElem_cons_zero, List.setIfInBounds_toArray, List.set_cons_succ, List.set_cons_zero]
            refine wm_q2 (i := 13) (v := ?v9_65) (some 70) rfl rfl rfl HS2 (fun W HS => ?y9_65) ?_
            case y9_65 => (go_simp; try with_reducible rfl)
            simp only [Act.put, List.getElem_toArray, List.getElem_cons_succ, List.getElem_cons_zero, List.setIfInBounds_toArray, List.set_cons_succ, List.set_cons_zero]
            refine wm_q2 (i := 14) (v := ?v9_66) (some 71) rfl rfl rfl HS2 (fun W HS => ?y9_66) ?_
            case y9_66 => (go_simp; try with_reducible rfl)
            simp only [Act.put, List.getElem_toArray, List.getElem_cons_succ, List.getElem_cons_zero, List.setIfInBounds_toArray, List.set_cons_succ, List.set_cons_zero]
            refine wm_e0 (i := 17) rfl ?_
            go_wp2_with (first
              | ((with_reducible refine st_ 23 ?_); go_must ((refine wl_store_blk _ _ _ _ _ _ _ rfl rfl HM (.there (.there (.there .here))) (by rw [kc_size]; exact sz23) (by simp only [kc_size]) (kc_one _) ?_); clear HM; intro W HM)))
            refine ⟨HM.held (by simp), ?_⟩
            clear HS1 HS2
            have HS1 : Held w0 W [.blk b6 (kc bef) 23] := HM.held (by simp)
            have HS2 : Held w0 W [.blk b6 (kc bef) 23] := HM.held (by simp)
            refine wm_e0 (i := 18) rfl ?_
            go_wp2_with (first
              | ((with_reducible refine st_ 23 ?_); go_must ((refine wl_store_blk _ _ _ _ _ _ _ rfl rfl HM (.there (.there .here)) (by rw [kc_size]; exact sz23) (by simp only [kc_size]) (kc_one _) ?_); clear HM; intro W HM)))
            refine ⟨HM.held (by simp), ?_⟩
            clear HS1 HS2
            have HS1 : Held w0 W [.blk b6 (kc bef) 23] := HM.held (by simp)
            have HS2 : Held w0 W [.blk b6 (kc bef) 23] := HM.held (by simp)
            refine wm_nilN ?_
            clear HS1 HS2
        case' br53 =>
          refine wm_e0 (i := 16) rfl ?_
          go_wp2_with (first
            | ((with_reducible refine s_ 17 ?_); go_must (refine wl_alloc (dst := some 17) (cs := kc zeroKey) 23 _ Try.zeroValue23 kc_zero HM ?_; clear HM; intro b17 W HM)))
          refine ⟨HM.held (by simp), ?_⟩
          clear HS1 HS2
          have HS1 : Held w0 W [.blk b6 (kc bef) 23] := HM.held (by simp)
          have HS2 : Held w0 W [.blk b6 (kc bef) 23] := HM.held (by simp)
          refine wm_fork2 ?br67 ?br68
          case' br67 =>
            refine wm_e0 (i := 11) rfl ?_
            go_wp2_with (first
              | (go_at_call 82; go_must (((with_reducible refine (ih (n - splitN n) (by omega) (m - splitN n) false _ _ _ u us _ (by omega) (by omega) (by omega) hpl2 (by omega) (hv68 _ hR) HM.f4).mono ?_)); rintro e W ⟨u1, vs1, R1, rfl, hT1, hX1, HM'⟩; clear HM; rename _ => HM; simp only [List.cons_append] at HM)))
            refine ⟨HM.held (by simp), ?_⟩
            clear HS1 HS2
            have HS1 : Held w0 W [.blk b6 (kc bef) 23] := HM.held (by simp)
            have HS2 : Held w0 W [.blk b6 (kc bef) 23] := HM.held (by simp)
            refine wm_q2 (i := 12) (v := ?v9_69) (some 57) rfl rfl rfl HS2 (fun W HS => ?y9_69) ?_
            case y9_69 => (go_simp; try with_reducible rfl)
            simp only [Act.put, List.getElem_toArray, List.getElem_cons_succ, List.getElem_cons_zero, List.setIfInBounds_toArray, List.set_cons_succ, List.set_cons_zero]
            refine wm_q2 (i := 13) (v := ?v9_70) (some 70) rfl rfl rfl HS2 (fun W HS => ?y9_70) ?_
            case y9_70 => (go_simp; try with_reducible rfl)
            simp only [Act.put, List.getElem_toArray, List.getElem_cons_succ, List.getElem_cons_zero, List.setIfInBounds_toArray, List.set_cons_succ, List.set_cons_zero]
            refine wm_q2 (i := 14) (v := ?v9_71) (some 71) rfl rfl rfl HS2 (fun W HS => ?y9_71) ?_
            case y9_71 => (go_simp; try with_reducible rfl)
            simp only [Act.put, List.getElem_toArray, List.getElem_cons_succ, List.getElem_cons_zero, List.setIfInBounds_toArray, List.set_cons_succ, List.set_cons_zero]
            refine wm_e0 (i := 15) rfl ?_
            go_wp2_with (first
              | ((with_reducible refine s_ 16 ?_); go_must (refine wl_alloc (dst := some 16) (cs := kc zeroKey) 23 _ Try.zeroValue23 kc_zero HM ?_; clear HM; intro b16 W HM)))
            refine ⟨HM.held (by simp), ?_⟩
            clear HS1 HS2
            have HS1 : Held w0 W [.blk b6 (kc bef) 23] := HM.held (by simp)
            have HS2 : Held w0 W [.blk b6 (kc bef) 23] := HM.held (by simp)
            refine wm_e0 (i := 17) rfl ?_
            go_wp2_with (first
              | ((with_reducible refine st_ 23 ?_); go_must ((refine wl_store_blk _ _ _ _ _ _ _ rfl rfl HM .here (by rw [kc_size]; exact sz23) (by simp only [kc_size]) (kc_one _) ?_); clear HM; intro W HM)))
            refine ⟨HM.held (by simp), ?_⟩
            clear HS1 HS2
            have HS1 : Held w0 W [.blk b6 (kc bef) 23] := HM.held (by simp)
            have HS2 : Held w0 W [.blk b6 (kc bef) 23] := HM.held (by simp)
            refine wm_e0 (i := 18) rfl ?_
            go_wp2_with (first
              | ((with_reducible refine st_ 23 ?_); go_must ((refine wl_store_blk _ _ _ _ _ _ _ rfl rfl HM (.there (.there (.there .here))) (by rw [kc_size]; exact sz23) (by simp only [kc_size]) (kc_one _) ?_); clear HM; intro W HM)))
            refine ⟨HM.held (by simp), ?_⟩
            clear HS1 HS2
            have HS1 : Held w0 W [.blk b6 (kc bef) 23] := HM.held (by simp)
            have HS2 : Held w0 W [.blk b6 (kc bef) 23] := HM.held (by simp)
            refine wm_nilN ?_
            clear HS1 HS2
          case' br68 =>
            refine wm_e0 (i := 15) rfl ?_
            go_wp2_with (first
              | ((with_reducible refine s_ 16 ?_); go_must (refine wl_alloc (dst := some 16) (cs := kc zeroKey) 23 _ Try.zeroValue23 kc_zero HM ?_; clear HM; intro b16 W HM)))
            refine ⟨HM.held (by simp), ?_⟩
            clear HS1 HS2
            have HS1 : Held w0 W [.blk b6 (kc bef) 23] := HM.held (by simp)
            have HS2 : Held w0 W [.blk b6 (kc bef) 23] := HM.held (by simp)
            refine wm_e0 (i := 11) rfl ?_
            go_wp2_with (first
              | (go_at_call 82; go_must (((with_reducible refine (ih (n - splitN n) (by omega) (m - splitN n) false _ _ _ u us _ (by omega) (by omega) (by omega) hpl2 (by omega) (hv68 _ hR) HM.f5).mono ?_)); rintro e W ⟨u1, vs1, R1, rfl, hT1, hX1, HM'⟩; clear HM; rename _ => HM; simp only [List.cons_append] at HM)))
            refine ⟨HM.held (by simp), ?_⟩
            clear HS1 HS2
            have HS1 : Held w0 W [.blk b6 (kc bef) 23] := HM.held (by simp)
            have HS2 : Held w0 W [.blk b6 (kc bef) 23] := HM.held (by simp)
            refine wm_q2 (i := 12) (v := ?v9_72) (some 57) rfl rfl rfl HS2 (fun W HS => ?y9_72) ?_
            case y9_72 => (go_simp; try with_reducible rfl)
            simp only [Act.put, List.getElem_toArray, List.getElem_cons_succ, List.getElem_cons_zero, List.setIfInBounds_toArray, List.set_cons_succ, List.set_cons_zero]
            refine wm_q2 (i := 13) (v := ?v9_73) (some 70) rfl rfl rfl HS2 (fun W HS => ?y9_73) ?_
            case y9_73 => (go_simp; try with_reducible rfl)
            simp only [Act.put, List.getElem_toArray, List.getElem_cons_succ, List.getElem_cons_zero, List.setIfInBounds_toArray, List.set_cons_succ, List.set_cons_zero]
            refine wm_q2 (i := 14) (v := ?v9_74) (some 71) rfl rfl rfl HS2 (fun W HS => ?y9_74) ?_
            case y9_74 => (go_simp; try with_reducible rfl)
            simp only [Act.put, List.getElem_toArray, List.getElem_cons_succ, List.getElem_cons_zero, List.setIfInBounds_toArray, List.set_cons_succ, List.set_cons_zero]
            refine wm_e0 (i := 17) rfl ?_
            go_wp2_with (first
              | ((with_reducible refine st_ 23 ?_); go_must ((refine wl_store_blk _ _ _ _ _ _ _ rfl rfl HM (.there (.there .here)) (by rw [kc_size]; exact sz23) (by simp only [kc_size]) (kc_one _) ?_); clear HM; intro W HM)))
            refine ⟨HM.held (by simp), ?_⟩
            clear HS1 HS2
            have HS1 : Held w0 W [.blk b6 (kc bef) 23] := HM.held (by simp)
            have HS2 : Held w0 W [.blk b6 (kc bef) 23] := HM.held (by simp)
            refine wm_e0 (i := 18) rfl ?_
            go_wp2_with (first
              | ((with_reducible refine st_ 23 ?_); go_must ((refine wl_store_blk _ _ _ _ _ _ _ rfl rfl HM (.there (.there (.there .here))) (by rw [kc_size]; exact sz23) (by simp only [kc_size]) (kc_one _) ?_); clear HM; intro W HM)))
            refine ⟨HM.held (by simp), ?_⟩
            clear HS1 HS2
            have HS1 : Held w0 W [.blk b6 (kc bef) 23] := HM.held (by simp)
            have HS2 : Held w0 W [.blk b6 (kc bef) 23] := HM.held (by simp)
            refine wm_nilN ?_
            clear HS1 HS2
        all_goals
          replace HM : Mem w0 W (.blk b #[u1] 119 :: .row u1 24 1 (us ++ vs1).length (valsT (us ++ vs1)) :: .blk b16 (kc (growA bef (n - splitN n) (m - splitN n) (p.take (p.length - 1)))) 23 :: .blk b17 (kc (growB bef (n - splitN n) (m - splitN n) (p.take (p.length - 1)))) 23 :: .blk b11 (kc zeroKey) 23 :: .blk b10 (kc zeroKey) 23 :: .blk b6 (kc bef) 23 :: (L ++ R1)) := by
            first | exact HM | exact HM.s23 | exact HM.f1 | exact HM.f1.s23 | exact HM.f2 | exact HM.f2.s23
          rw [ht] at hT1 hz2
          go_wp2_with (fail)
          replace HM := HM.drew
          refine wp_region_mixN (fun W => Held w0 W [.blk b16 (kc (growA bef (n - splitN n) (m - splitN n) (p.take (p.length - 1)))) 23, .blk b17 (kc (growB bef (n - splitN n) (m - splitN n) (p.take (p.length - 1)))) 23]) (fun W => Held w0 W [.blk b17 (kc (growB bef (n - splitN n) (m - splitN n) (p.take (p.length - 1)))) 23]) (.cons (2, 0) (.cons (2, 1) (.cons (2, 2) (.cons (2, 3) (.cons (2, 4) (.cons (1, 5) (.cons (0, 6) (.cons (0, 7) (.cons (3, 8) .nil))))))))) [8] (by kernel_rfl) (by kernel_rfl) (by kernel_rfl) (fun W h => Held.weak h (by simp)) (HM.held (by simp)) ?_
          revert HM; generalize World.drew _ = W; intro HM
          have HS1 : Held w0 W [.blk b16 (kc (growA bef (n - splitN n) (m - splitN n) (p.take (p.length - 1)))) 23, .blk b17 (kc (growB bef (n - splitN n) (m - splitN n) (p.take (p.length - 1)))) 23] := HM.held (by simp)
          have HS2 : Held w0 W [.blk b17 (kc (growB bef (n - splitN n) (m - splitN n) (p.take (p.length - 1)))) 23] := HM.held (by simp)
          refine wm_q2 (i := 0) (v := ?v10_75) (some 72) rfl rfl rfl HS2 (fun W HS => ?y10_75) ?_
          case y10_75 => (go_simp; try with_reducible rfl)
          simp only [Act.put, List.getElem_toArray, List.getElem_cons_succ, List.getElem_cons_zero, List.setIfInBounds_toArray, List.set_cons_succ, List.set_cons_zero]
          refine wm_q2 (i := 1) (v := ?v10_76) (some 73) rfl rfl rfl HS2 (fun W HS => ?y10_76) ?_
          case y10_76 => (go_simp; try with_reducible rfl)
          simp only [Act.put, List.getElem_toArray, List.getElem_cons_succ, List.getElem_cons_zero, List.setIfInBounds_toArray, List.set_cons_succ, List.set_cons_zero]
          refine wm_q2 (i := 2) (v := ?v10_77) (some 74) rfl rfl rfl HS2 (fun W HS => ?y10_77) ?_
          case y10_77 => (go_simp; try with_reducible rfl)
          simp only [Act.put, List.getElem_toArray, List.getElem_cons_succ, List.getElem_cons_zero, List.setIfInBounds_toArray, List.set_cons_succ, List.set_cons_zero]
          (refine wm_q2x (i := 3) (some 75) rfl rfl rfl HS2 (ry_index _ 23 _ _ _ _ _ _ _ (fun W => Held w0 W [.blk b17 (kc (growB bef (n - splitN n) (m - splitN n) (p.take (p.length - 1)))) 23]) W encK_len Try.underlying40 sz23 HS2 (fun W HS => hR.held HS) rfl rfl (by omega) (by first | assumption | simp [*])) ?_); intro p75 hp75
          simp only [Act.put, List.getElem_toArray, List.getElem_cons_succ, List.getElem_cons_zero, List.setIfInBounds_toArray, List.set_cons_succ, List.set_cons_zero]
          refine wm_q2 (i := 4) (some 76) rfl rfl rfl HS2 (fun W HS => (by refine ry_load_key _ _ _ _ ?_ (hp75 W HS) Try.underlying23 sz23; rfl)) ?_
          simp only [Act.put, List.getElem_toArray, List.getElem_cons_succ, List.getElem_cons_zero, List.setIfInBounds_toArray, List.set_cons_succ, List.set_cons_zero]
          refine wm_q1 (i := 5) (some 77) rfl rfl rfl HS1 (fun W HS => (by ((refine ry_load_blk _ _ _ _ _ _ HS ?_ m0 Try.underlying23 rfl (by rw [kc_size]; exact sz23); rfl)))) ?_
          simp only [Act.put, List.getElem_toArray, List.getElem_cons_succ, List.getElem_cons_zero, List.setIfInBounds_toArray, List.set_cons_succ, List.set_cons_zero]
          refine wm_e0 (i := 6) rfl ?_
          go_wp2_with (first
            | (go_at_call 68; go_must (first | ((with_reducible refine (nodeTextT (lastK p) (growA bef (n - splitN n) (m - splitN n) (p.take (p.length - 1))) _).mono ?_); rintro e W ⟨q1, rfl, HM'⟩; replace HM := HM.join HM'; clear HM'; simp only [List.cons_append, List.nil_append] at HM) | ((with_reducible refine (nodeTextT (lastK p) (growB bef (n - splitN n) (m - splitN n) (p.take (p.length - 1))) _).mono ?_); rintro e W ⟨q2, rfl, HM'⟩; replace HM := HM.join HM'; clear HM'; simp only [List.cons_append, List.nil_append] at HM))))
          refine ⟨HM.held (by simp), ?_⟩
          clear HS1 HS2
          have HS1 : Held w0 W [.blk b16 (kc (growA bef (n - splitN n) (m - splitN n) (p.take (p.length - 1)))) 23, .blk b17 (kc (growB bef (n - splitN n) (m - splitN n) (p.take (p.length - 1)))) 23] := HM.held (by simp)
          have HS2 : Held w0 W [.blk b17 (kc (growB bef (n - splitN n) (m - splitN n) (p.take (p.length - 1)))) 23] := HM.held (by simp)
          refine wm_e0 (i := 7) rfl ?_
          go_wp2_with (first
            | (go_at_call 65; go_must (first | ((with_reducible refine (take_c w0 _ b u1 q1 (us ++ vs1) (textNode (lastK p) (growA bef (n - splitN n) (m - splitN n) (p.take (p.length - 1)))) _ HM.f1 m0 (by rw [textNode_len]; decide) (by have := hT1.len; rw [List.length_append]; omega)).mono ?_); rintro e W ⟨u2, rfl, HM'⟩; clear HM; rename _ => HM) | ((with_reducible refine (take_c w0 _ b u2 q2 (us ++ vs1 ++ [(q1, textNode (lastK p) (growA bef (n - splitN n) (m - splitN n) (p.take (p.length - 1))))]) (textNode (lastK p) (growB bef (n - splitN n) (m - splitN n) (p.take (p.length - 1)))) _ HM.f1 m0 (by rw [textNode_len]; decide) (by have := hT1.len; rw [List.length_append, List.length_append]; simp; omega)).mono ?_); rintro e W ⟨u3, rfl, HM'⟩; clear HM; rename _ => HM))))
          refine ⟨HM.held (by simp), ?_⟩
          clear HS1 HS2
          have HS1 : Held w0 W [.blk b16 (kc (growA bef (n - splitN n) (m - splitN n) (p.take (p.length - 1)))) 23, .blk b17 (kc (growB bef (n - splitN n) (m - splitN n) (p.take (p.length - 1)))) 23] := HM.held (by simp)
          have HS2 : Held w0 W [.blk b17 (kc (growB bef (n - splitN n) (m - splitN n) (p.take (p.length - 1)))) 23] := HM.held (by simp)
          refine wm_e3 (i := 8) rfl ?_
          go_wp2_with (first
            | ((with_reducible refine st_ 23 ?_); go_must ((refine wl_store_blk _ _ _ _ _ _ _ rfl rfl HM (.there (.there (.there .here))) (by rw [kc_size]; exact sz23) (by simp only [kc_size]) (kc_one _) ?_); clear HM; intro W HM)))
          refine ⟨HM.held (by simp), ?_⟩
          clear HS1 HS2
          have HS1 : True := trivial
          have HS2 : Held w0 W [.blk b17 (kc (growB bef (n - splitN n) (m - splitN n) (p.take (p.length - 1)))) 23] := HM.held (by simp)
          refine wm_nilN ?_
          clear HS1 HS2
          go_wp2_with (fail)
          replace HM := HM.drew
          refine wp_region_mixN (fun W => Held w0 W [.blk b16 (kc (digestL (textNode (lastK p) (growA bef (n - splitN n) (m - splitN n) (p.take (p.length - 1)))))) 23, .blk b17 (kc (growB bef (n - splitN n) (m - splitN n) (p.take (p.length - 1)))) 23]) (fun W => Held w0 W [.blk b16 (kc (digestL (textNode (lastK p) (growA bef (n - splitN n) (m - splitN n) (p.take (p.length - 1)))))) 23, .blk b17 (kc (growB bef (n - splitN n) (m - splitN n) (p.take (p.length - 1)))) 23]) (.cons (2, 0) (.cons (2, 1) (.cons (2, 2) (.cons (2, 3) (.cons (2, 4) (.cons (2, 5) (.cons (2, 6) (.cons (0, 7) (.cons (0, 8) (.cons (0, 9) (.cons (0, 10) .nil))))))))))) [] (by kernel_rfl) (by kernel_rfl) (by kernel_rfl) (fun W h => Held.weak h (by simp)) (HM.held (by simp)) ?_
          revert HM; generalize World.drew _ = W; intro HM
          have HS1 : Held w0 W [.blk b16 (kc (digestL (textNode (lastK p) (growA bef (n - splitN n) (m - splitN n) (p.take (p.length - 1)))))) 23, .blk b17 (kc (growB bef (n - splitN n) (m - splitN n) (p.take (p.length - 1)))) 23] := HM.held (by simp)
          have HS2 : Held w0 W [.blk b16 (kc (digestL (textNode (lastK p) (growA bef (n - splitN n) (m - splitN n) (p.take (p.length - 1)))))) 23, .blk b17 (kc (growB bef (n - splitN n) (m - splitN n) (p.take (p.length - 1)))) 23] := HM.held (by simp)
          refine wm_q2 (i := 0) (some 80) rfl rfl rfl HS2 (fun W HS => (by ((refine ry_load_blk _ _ _ _ _ _ HS ?_ m0 Try.underlying23 rfl (by rw [kc_size]; exact sz23); rfl)))) ?_
          simp only [Act.put, List.getElem_toArray, List.getElem_cons_succ, List.getElem_cons_zero, List.setIfInBounds_toArray, List.set_cons_succ, List.set_cons_zero]
          refine wm_q2 (i := 1) (v := ?v11_81) (some 81) rfl rfl rfl HS2 (fun W HS => ?y11_81) ?_
          case y11_81 => (go_simp; try with_reducible rfl)
          simp only [Act.put, List.getElem_toArray, List.getElem_cons_succ, List.getElem_cons_zero, List.setIfInBounds_toArray, List.set_cons_succ, List.set_cons_zero]
          refine wm_q2 (i := 2) (v := ?v11_82) (some 82) rfl rfl rfl HS2 (fun W HS => ?y11_82) ?_
          case y11_82 => (go_simp; try with_reducible rfl)
          simp only [Act.put, List.getElem_toArray, List.getElem_cons_succ, List.getElem_cons_zero, List.setIfInBounds_toArray, List.set_cons_succ, List.set_cons_zero]
          refine wm_q2 (i := 3) (v := ?v11_83) (some 83) rfl rfl rfl HS2 (fun W HS => ?y11_83) ?_
          case y11_83 => (go_simp; try with_reducible rfl)
          simp only [Act.put, List.getElem_toArray, List.getElem_cons_succ, List.getElem_cons_zero, List.setIfInBounds_toArray, List.set_cons_succ, List.set_cons_zero]
          (refine wm_q2x (i := 4) (some 84) rfl rfl rfl HS2 (ry_index _ 23 _ _ _ _ _ _ _ (fun W => Held w0 W [.blk b16 (kc (digestL (textNode (lastK p) (growA bef (n - splitN n) (m - splitN n) (p.take (p.length - 1)))))) 23, .blk b17 (kc (growB bef (n - splitN n) (m - splitN n) (p.take (p.length - 1)))) 23]) W encK_len Try.underlying40 sz23 HS2 (fun W HS => hR.held HS) rfl rfl (by omega) (by first | assumption | simp [*])) ?_); intro p84 hp84
          simp only [Act.put, List.getElem_toArray, List.getElem_cons_succ, List.getElem_cons_zero, List.setIfInBounds_toArray, List.set_cons_succ, List.set_cons_zero]
          refine wm_q2 (i := 5) (some 85) rfl rfl rfl HS2 (fun W HS => (by refine ry_load_key _ _ _ _ ?_ (hp84 W HS) Try.underlying23 sz23; rfl)) ?_
          simp only [Act.put, List.getElem_toArray, List.getElem_cons_succ, List.getElem_cons_zero, List.setIfInBounds_toArray, List.set_cons_succ, List.set_cons_zero]
          refine wm_q2 (i := 6) (some 86) rfl rfl rfl HS2 (fun W HS => (by ((refine ry_load_blk _ _ _ _ _ _ HS ?_ m1 Try.underlying23 rfl (by rw [kc_size]; exact sz23); rfl)))) ?_
          simp only [Act.put, List.getElem_toArray, List.getElem_cons_succ, List.getElem_cons_zero, List.setIfInBounds_toArray, List.set_cons_succ, List.set_cons_zero]
          refine wm_e0 (i := 7) rfl ?_
          go_wp2_with (first
            | (go_at_call 68; go_must (first | ((with_reducible refine (nodeTextT (lastK p) (growA bef (n - splitN n) (m - splitN n) (p.take (p.length - 1))) _).mono ?_); rintro e W ⟨q1, rfl, HM'⟩; replace HM := HM.join HM'; clear HM'; simp only [List.cons_append, List.nil_append] at HM) | ((with_reducible refine (nodeTextT (lastK p) (growB bef (n - splitN n) (m - splitN n) (p.take (p.length - 1))) _).mono ?_); rintro e W ⟨q2, rfl, HM'⟩; replace HM := HM.join HM'; clear HM'; simp only [List.cons_append, List.nil_append] at HM))))
          refine ⟨HM.held (by simp), ?_⟩
          clear HS1 HS2
          have HS1 : Held w0 W [.blk b16 (kc (digestL (textNode (lastK p) (growA bef (n - splitN n) (m - splitN n) (p.take (p.length - 1)))))) 23, .blk b17 (kc (growB bef (n - splitN n) (m - splitN n) (p.take (p.length - 1)))) 23] := HM.held (by simp)
          have HS2 : Held w0 W [.blk b16 (kc (digestL (textNode (lastK p) (growA bef (n - splitN n) (m - splitN n) (p.take (p.length - 1)))))) 23, .blk b17 (kc (growB bef (n - splitN n) (m - splitN n) (p.take (p.length - 1)))) 23] := HM.held (by simp)
          refine wm_e0 (i := 8) rfl ?_
          go_wp2_with (first
            | (go_at_call 65; go_must (first | ((with_reducible refine (take_c w0 _ b u1 q1 (us ++ vs1) (textNode (lastK p) (growA bef (n - splitN n) (m - splitN n) (p.take (p.length - 1)))) _ HM.f1 m0 (by rw [textNode_len]; decide) (by have := hT1.len; rw [List.length_append]; omega)).mono ?_); rintro e W ⟨u2, rfl, HM'⟩; clear HM; rename _ => HM) | ((with_reducible refine (take_c w0 _ b u2 q2 (us ++ vs1 ++ [(q1, textNode (lastK p) (growA bef (n - splitN n) (m - splitN n) (p.take (p.length - 1))))]) (textNode (lastK p) (growB bef (n - splitN n) (m - splitN n) (p.take (p.length - 1)))) _ HM.f1 m0 (by rw [textNode_len]; decide) (by have := hT1.len; rw [List.length_append, List.length_append]; simp; omega)).mono ?_); rintro e W ⟨u3, rfl, HM'⟩; clear HM; rename _ => HM))))
          refine ⟨HM.held (by simp), ?_⟩
          clear HS1 HS2
          have HS1 : Held w0 W [.blk b16 (kc (digestL (textNode (lastK p) (growA bef (n - splitN n) (m - splitN n) (p.take (p.length - 1)))))) 23, .blk b17 (kc (growB bef (n - splitN n) (m - splitN n) (p.take (p.length - 1)))) 23] := HM.held (by simp)
          have HS2 : Held w0 W [.blk b16 (kc (digestL (textNode (lastK p) (growA bef (n - splitN n) (m - splitN n) (p.take (p.length - 1)))))) 23, .blk b17 (kc (growB bef (n - splitN n) (m - splitN n) (p.take (p.length - 1)))) 23] := HM.held (by simp)
          refine wm_e0 (i := 9) rfl ?_
          go_wp2_with (first
            | ((with_reducible refine st_ 23 ?_); go_must ((refine wl_store_blk _ _ _ _ _ _ _ rfl rfl HM (.there (.there (.there (.there (.there (.there (.there .here))))))) (by rw [kc_size]; exact sz23) (by simp only [kc_size]) (kc_one _) ?_); clear HM; intro W HM)))
          refine ⟨HM.held (by simp), ?_⟩
          clear HS1 HS2
          have HS1 : Held w0 W [.blk b16 (kc (digestL (textNode (lastK p) (growA bef (n - splitN n) (m - splitN n) (p.take (p.length - 1)))))) 23, .blk b17 (kc (growB bef (n - splitN n) (m - splitN n) (p.take (p.length - 1)))) 23] := HM.held (by simp)
          have HS2 : Held w0 W [.blk b16 (kc (digestL (textNode (lastK p) (growA bef (n - splitN n) (m - splitN n) (p.take (p.length - 1)))))) 23, .blk b17 (kc (growB bef (n - splitN n) (m - splitN n) (p.take (p.length - 1)))) 23] := HM.held (by simp)
          refine wm_e0 (i := 10) rfl ?_
          go_wp2_with (first
            | ((with_reducible refine st_ 23 ?_); go_must ((refine wl_store_blk _ _ _ _ _ _ _ rfl rfl HM (.there (.there (.there (.there (.there (.there .here)))))) (by rw [kc_size]; exact sz23) (by simp only [kc_size]) (kc_one _) ?_); clear HM; intro W HM)))
          refine ⟨HM.held (by simp), ?_⟩
          clear HS1 HS2
          have HS1 : Held w0 W [.blk b16 (kc (digestL (textNode (lastK p) (growA bef (n - splitN n) (m - splitN n) (p.take (p.length - 1)))))) 23, .blk b17 (kc (growB bef (n - splitN n) (m - splitN n) (p.take (p.length - 1)))) 23] := HM.held (by simp)
          have HS2 : Held w0 W [.blk b16 (kc (digestL (textNode (lastK p) (growA bef (n - splitN n) (m - splitN n) (p.take (p.length - 1)))))) 23, .blk b17 (kc (growB bef (n - splitN n) (m - splitN n) (p.take (p.length - 1)))) 23] := HM.held (by simp)
          refine wm_nilN ?_
          clear HS1 HS2
          go_wp2_with (fail)
          refine ret2 rfl (by (exact res_row HM rfl m7 Try.underlying23 rfl (by rw [kc_size]; exact sz23))) (by (exact res_row HM rfl m6 Try.underlying23 rfl (by rw [kc_size]; exact sz23))) rfl ?_
          have H := (HM.sub (.cons_cons _ (.cons_cons _ (.cons_cons _ (.cons_cons _ (.cons _ (.cons _ (.cons _ (.cons _ (.cons _ (.refl _))))))))))).tuck2
          rw [List.append_assoc (us ++ vs1), List.append_assoc us] at H
          exact ⟨u3, _, _, rfl, hT1.app ((TxIs.one q1 _).app (TxIs.one q2 _)), (Tx.inr [rowT _, rowT _] hX1).app ((Tx.one m1).app (Tx.one m0)), H⟩
end
end Go.Proofs.Ythdekionepfmdaa
