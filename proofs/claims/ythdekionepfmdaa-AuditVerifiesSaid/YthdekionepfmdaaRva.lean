/- A store of a key into a row of one's own. -/
import Derived.Test.YthdekionepfmdaaRtc
set_option linter.unusedVariables false
set_option linter.unusedSimpArgs false
set_option maxRecDepth 8000
namespace Go.Proofs.Ythdekionepfmdaa
open Go.RowKit

theorem writeL_list (vs : List Value) : ∀ (cs : Array Value) (o : Nat), o + vs.length ≤ cs.size → (writeL cs o vs).toList = cs.toList.take o ++ vs ++ cs.toList.drop (o + vs.length) := by
  induction vs with
  | nil => intro cs o h; simp [writeL]
  | cons v vs ih =>
    intro cs o h
    simp only [List.length_cons] at h
    rw [writeL, ih _ _ (by simp; omega)]
    simp only [Array.toList_setIfInBounds, List.length_cons]
    have h1 : o < cs.toList.length := by simp; omega
    rw [List.take_set, List.take_succ_eq_append_getElem h1, List.set_append_right _ _ (by simp; omega), List.drop_set]
    have h2 : o - (List.take o cs.toList).length = 0 := by simp; omega
    rw [h2, if_pos (by omega), show o + 1 + vs.length = o + (vs.length + 1) by omega]
    simp
theorem flat_set (l : List Key) (i : Nat) (k : Key) (hi : i < l.length) : (l.set i k).flatMap encK = (l.flatMap encK).take (i * 16) ++ encK k ++ (l.flatMap encK).drop (i * 16 + 16) := by
  rw [List.set_eq_take_append_cons_drop, if_pos hi, List.flatMap_append, List.flatMap_cons, flatMap_take encK_len, flatMap_drop encK_len, show (i + 1) * 16 = i * 16 + 16 by omega, List.append_assoc]

section
variable {P : Program} {ops : Array Oper} {rest : List Oper} {a : Act} {Q : Exit → Act → World → Prop} {w0 W : World} {L : List It} {dst : Option Tmp} {tt : TypeId} {ps : String} {af : Array Edge}
theorem wl_store_rowK {f : It → List It} (ty : TypeId) (x y : Operand) (g i n cap : Nat) (e : TypeId) (l : List Key) (k : Key) (hx : a.eval x = .pointer (some ⟨g, i * 16, none⟩)) (hy : a.eval y = .agg (kc k)) (HM : Mem w0 W L)
    (hk : Spot (.row (.slice (some ⟨g, 0, none⟩) n cap) e 16 n (l.flatMap encK)) L f) (hi : (P.info? ty).map (·.size) = some 16) (ho : i < l.length)
    (h : ∀ W', Mem w0 W' (f (.row (.slice (some ⟨g, 0, none⟩) n cap) e 16 n ((l.set i k).flatMap encK))) → wpList P ops Q rest (a.put dst undef) W') : wpList P ops Q (Oper.mk dst (.store ty x y) tt ps af none :: rest) a W := by
  have hown := HM.row hk.mem
  obtain ⟨hlen, ho2⟩ := hown
  rcases ho2 with ⟨h0, _⟩ | ⟨g', cap', cur, hv, hb, hh, hc, hcm, hs, ht⟩
  · cases h0
  · injection hv with hv1 hv2 hv3
    injection hv1 with hv1
    injection hv1 with hv1
    subst hv1; subst hv3
    have hll : l.length = n := by rw [flatMap_length encK_len] at hlen; omega
    have hfit : i * 16 + 16 ≤ n * 16 := by omega
    have hcur : i * 16 + (encK k).length ≤ cur.size := by rw [encK_len, hs]; have := Nat.mul_le_mul_right 16 hc; omega
    refine wpList_store_mid rfl ty x y rfl g (i * 16) (kc k) hx hy (fun j hj => ⟨?_, ?_⟩) (by rw [kc_size]; exact hi) (kc_one k) (h _ ?_)
    · rw [kc_size] at hj
      rw [encK_len] at hcur
      rw [cell_of_row W g _ cur e _ hh]; simp; omega
    · exact frozen_of_row W g _ cur e hh
    · rw [kc_toList]
      obtain ⟨h2, h3⟩ := setCells_turn g e (encK k) (i * 16) W cur hh
      refine HM.turn (hk.repl _) h2 ⟨by rw [flatMap_length encK_len, List.length_set, hll], .inr ⟨g, cap, _, rfl, hb, h3, hc, hcm, by rw [writeL_size]; exact hs, ?_⟩⟩ (fun b hb => .inl hb)
      rw [writeL_list _ _ _ hcur, flat_set l i k ho, ← ht, encK_len]
      have hA : (cur.toList.take (i * 16)).length = i * 16 := by rw [List.length_take, Array.length_toList, hs]; have := Nat.mul_le_mul_right 16 hc; omega
      rw [List.take_append, List.take_of_length_le (l := cur.toList.take (i * 16) ++ encK k) (by rw [List.length_append, hA, encK_len]; omega), List.length_append, hA, encK_len, List.take_take, Nat.min_eq_left (by omega), List.drop_take]
end
end Go.Proofs.Ythdekionepfmdaa
