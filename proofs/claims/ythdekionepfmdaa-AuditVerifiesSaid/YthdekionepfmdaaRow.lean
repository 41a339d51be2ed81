/- Arguments that read as data, told by lists and keys: for the rows' frames. Plain theorems. -/
import Derived.Test.YthdekionepfmdaaCih
import Derived.Test.YthdekionepfmdaaRows
import Derived.ProofKit
import Derived.OpenShut
import Derived.ShutString
import Derived.ChangeOld
import Derived.Below
import Derived.Carry
import Derived.JoinedCond
import Derived.Lib.SmallJoins
set_option linter.unusedVariables false
set_option linter.unusedSimpArgs false
set_option maxRecDepth 100000
namespace Go.Proofs.Ythdekionepfmdaa
open Go.RowKit Go.ChangeShapes Go.WideShapes

section
variable {H : Type} {enc : TypeId × Value → H} {P : Program} {w : World} {base : Nat} {spare : Nat → Bool} {held : Bool} {fuel : Nat} {t e : TypeId} {cs : List Value} {x : DataW H × List MemPlace}

theorem dec_u8 (he : P.underlying e = some (.int .u8)) (h : DataW.trod enc P w base spare held fuel e cs = some x) : ∃ b : UInt8, cs = encB b := by
  obtain ⟨n, rfl, _, wf⟩ := DataW.trod_int he h
  have hb : 0 ≤ n ∧ n ≤ 255 := by simpa [Lit.wf, IntKind.min, IntKind.max, IntKind.signed, IntKind.bits] using wf
  refine ⟨UInt8.ofNat n.toNat, ?_⟩
  have : ((UInt8.ofNat n.toNat).toNat : Int) = n := by rw [UInt8.toNat_ofNat']; omega
  rw [encB, this]

theorem dec_key (ht : P.underlying t = some (.array 16 e)) (he : P.underlying e = some (.int .u8)) (hc : P.cellsOf t = 16) (h1 : P.cellsOf e = 1) (h : DataW.trod enc P w base spare held fuel t cs = some x) : ∃ k : Key, cs = encK k := by
  obtain ⟨xs, m, _, _, hl, hxl, hx⟩ := DataW.trod_array ht h
  rw [h1] at hx
  have hb : ∀ i : Fin 16, ∃ b : UInt8, cs[i.1]? = some (.int .u8 b.toNat) := by
    intro i
    have h2 := hx i.1 i.2
    rw [List.getElem?_eq_getElem (by omega : i.1 < xs.length), Nat.mul_one] at h2
    obtain ⟨b, hb⟩ := dec_u8 he h2
    refine ⟨b, ?_⟩
    have h3 : ((cs.drop i.1).take 1)[0]? = some (.int .u8 b.toNat) := by rw [hb]; rfl
    rw [List.getElem?_take, List.getElem?_drop] at h3
    simpa using h3
  obtain ⟨f, hf⟩ := Classical.axiomOfChoice hb
  refine ⟨Vector.ofFn f, ?_⟩
  apply List.ext_getElem?
  intro i
  rcases Nat.lt_or_ge i 16 with hi | hi
  · rw [hf ⟨i, hi⟩]
    have := kc_at (Vector.ofFn f) i hi
    rw [kc, List.getElem?_toArray] at this
    rw [this]; simp
  · rw [List.getElem?_eq_none (by omega), List.getElem?_eq_none (by rw [encK_len]; exact hi)]

/-- A slice that reads: a list of what its elements are. -/
theorem dec_slice {α : Type} {en : α → List Value} {size : Nat} (ht : P.underlying t = some (.slice e)) (hc : P.cellsOf e = size) (hs : 0 < size) (hen : ∀ x, (en x).length = size)
    (hel : ∀ fuel cs x, DataW.trod enc P w base spare held fuel e cs = some x → ∃ u : α, cs = en u) (h : DataW.trod enc P w base spare held fuel t cs = some x) :
    ∃ v l, cs = [v] ∧ RdL en size w v l ∧ (l = [] ∨ ∃ E R, x.1 = .slice E R ∧ E.length = l.length) := by
  rcases DataW.trod_slice ht h with ⟨rfl, rfl⟩ | ⟨a, len, cap, elems, rest, n, _, rfl, rfl, _, hlc, hcm, hel2, hcell, _⟩
  · exact ⟨_, [], rfl, ⟨none, 0, rfl, by simp, by simp [maxLen], fun h => absurd rfl h⟩, .inl rfl⟩
  · rw [hc] at hcell
    have hx : ∀ i : Fin len, ∃ u : α, w.cells? base (a.add (i.1 * size)) size = some (en u) := by
      intro i
      have h2 := hcell i.1 i.2
      rw [List.getElem?_eq_getElem (by omega : i.1 < elems.length)] at h2
      cases hq : w.cells? base (a.add (i.1 * size)) size with
      | none => rw [hq] at h2; simp at h2
      | some ci =>
        rw [hq] at h2
        obtain ⟨u, hu⟩ := hel _ _ _ h2
        exact ⟨u, by rw [hu]⟩
    obtain ⟨f, hf⟩ := Classical.axiomOfChoice hx
    refine ⟨_, List.ofFn f, rfl, ⟨some a, cap, by simp, by simpa using hlc, hcm, fun hne => ?_⟩, .inr ⟨_, _, rfl, by simpa using hel2⟩⟩
    have hpos : 0 < len := by
      rcases Nat.eq_zero_or_pos len with h0 | h0
      · subst h0; simp at hne
      · exact h0
    have hsp : a.spot = none := by
      obtain ⟨_, _, h3⟩ := World.cells?_some (hf ⟨0, hpos⟩)
      have h4 := h3 0 hs
      have hl0 : 0 < (en (f ⟨0, hpos⟩)).length := by rw [hen]; exact hs
      rw [List.getElem?_eq_getElem hl0] at h4
      have h5 := World.cell?_spot h4
      cases hspot : a.spot with
      | none => rfl
      | some q => simp [Addr.add, hspot] at h5
    obtain ⟨b, o, sp⟩ := a
    simp only at hsp
    subst hsp
    refine ⟨b, o, rfl, fun j v hv => ?_⟩
    have hj : j < len * size := by
      have := (List.getElem?_eq_some_iff.1 hv).1
      rwa [flatMap_length hen, List.length_ofFn] at this
    have hi : j / size < len := Nat.div_lt_of_lt_mul (by rw [Nat.mul_comm]; exact hj)
    have hr : j % size < size := Nat.mod_lt _ hs
    have hjs : j / size * size + j % size = j := by rw [Nat.mul_comm]; exact Nat.div_add_mod j size
    obtain ⟨_, _, h3⟩ := World.cells?_some (hf ⟨j / size, hi⟩)
    have h4 := h3 (j % size) hr
    have h5 := flatMap_at hen (List.ofFn f) (j / size) (f ⟨j / size, hi⟩) (by simp [hi]) (j % size) hr
    rw [hjs] at h5
    rw [h5] at hv
    rw [hv] at h4
    rw [Addr.add_mid, Addr.add_mid, Nat.add_assoc, hjs] at h4
    exact h4
end

theorem okWide_array {P : Program} {w : World} {r : Reach} {base : Nat} {t e : TypeId} {n : Nat} {v : Value} (ht : P.underlying t = some (.array n e)) (h : Value.okWide P w r base t v) : ∃ cs, v = .agg cs ∧ cs.size = P.cellsOf t := by
  simp only [Value.okWide, ht] at h
  obtain ⟨cs, h1, h2, _⟩ := h
  exact ⟨cs, h1, h2⟩

/-! ### The arguments of this program's laws -/
section
variable {H : Type} {enc : TypeId × Value → H} {W : World} {base : Nat} {v : Value} {d : DataW H} {p : List MemPlace} {spare : Nat → Bool} {held : Bool} {fuel : Nat} {cs : List Value} {x : DataW H × List MemPlace}
theorem cells5 : Try.prog.cellsOf 5 = 1 := by kernel_rfl
theorem cellsK : Try.prog.cellsOf 23 = 16 := by kernel_rfl
theorem tr_key (h : DataW.trod enc Try.prog W base spare held fuel 23 cs = some x) : ∃ k : Key, cs = encK k :=
  dec_key Try.underlying23 Try.underlying5 cellsK cells5 h
theorem tr_bytes (h : DataW.trod enc Try.prog W base spare held fuel 24 cs = some x) :
    ∃ v l, cs = [v] ∧ RdL encB 1 W v l ∧ (l = [] ∨ ∃ E R, x.1 = .slice E R ∧ E.length = l.length) :=
  dec_slice Try.underlying24 cells5 (by decide) encB_len (fun fuel cs x h => dec_u8 Try.underlying5 h) h
theorem arg_key (hv : Value.okWide Try.prog W .any base 23 v) (h : DataW.Trod enc Try.prog W 0 spare held 23 v d p) : ∃ k : Key, v = .agg (kc k) := by
  obtain ⟨cs, rfl, _⟩ := okWide_array Try.underlying23 hv
  obtain ⟨fuel, hf⟩ := h
  obtain ⟨k, hk⟩ := tr_key hf
  exact ⟨k, by rw [kc, ← hk]; rfl⟩
theorem arg_bytes (hv : Value.okWide Try.prog W .any base 24 v) (h : DataW.Trod enc Try.prog W 0 spare held 24 v d p) : ∃ l, RdL encB 1 W v l ∧ (l = [] ∨ ∃ E R, d = .slice E R ∧ E.length = l.length) := by
  obtain ⟨a, len, cap, rfl⟩ := okWide_slice Try.underlying24 hv
  obtain ⟨fuel, hf⟩ := h
  obtain ⟨v', l, hcs, hR, hl⟩ := tr_bytes hf
  have e : Value.slice a len cap = v' := by simpa [Value.cells] using hcs
  exact ⟨l, e ▸ hR, hl⟩
theorem arg_rec (hv : Value.okWide Try.prog W .any base 26 v) (h : DataW.Trod enc Try.prog W 0 spare held 26 v d p) :
    ∃ bx ck rv l, v = .agg (recC bx ck rv) ∧ RdL encB 1 W rv l ∧ (l = [] ∨ ∃ d1 d2 E R, d = .agg [d1, d2, .slice E R] ∧ E.length = l.length) := by
  obtain ⟨cs, rfl, _⟩ := okWide_struct Try.underlying26 hv
  obtain ⟨fuel, hf⟩ := h
  obtain ⟨xs, n, _, hx, hl, hxl, hfs⟩ := DataW.trod_struct Try.underlying26 hf
  have hsz : (Value.agg cs).cells.toList = cs.toList := rfl
  rw [hsz] at hl hfs
  rw [show Try.prog.cellsOf 26 = 33 from by kernel_rfl] at hl
  have hx3 : xs.length = 3 := hxl
  obtain ⟨x0, x1, x2, rfl⟩ : ∃ x0 x1 x2, xs = [x0, x1, x2] := by
    match xs, hx3 with
    | [a, b, c], _ => exact ⟨a, b, c, rfl⟩
  have f0 : DataW.trod enc Try.prog W 0 spare held n 23 ((cs.toList.drop 0).take (Try.prog.cellsOf 23)) = some x0 := hfs 0 _ rfl
  have f1 : DataW.trod enc Try.prog W 0 spare held n 23 ((cs.toList.drop 16).take (Try.prog.cellsOf 23)) = some x1 := hfs 1 _ rfl
  have f2 : DataW.trod enc Try.prog W 0 spare held n 24 ((cs.toList.drop 32).take (Try.prog.cellsOf 24)) = some x2 := hfs 2 _ rfl
  rw [cellsK] at f0 f1
  rw [show Try.prog.cellsOf 24 = 1 from by kernel_rfl] at f2
  obtain ⟨bx, h0⟩ := tr_key f0
  obtain ⟨ck, h1⟩ := tr_key f1
  obtain ⟨rv, l, h2, hR, hlen⟩ := tr_bytes f2
  refine ⟨bx, ck, rv, l, ?_, hR, ?_⟩
  · have e : cs.toList = encK bx ++ encK ck ++ [rv] := by
      rw [← h0, ← h1, ← h2]
      have e1 : (cs.toList.drop 32).take 1 = cs.toList.drop 32 := List.take_of_length_le (by simp at hl ⊢; omega)
      have e2 : cs.toList.drop 16 = (cs.toList.drop 16).take 16 ++ (cs.toList.drop 16).drop 16 := (List.take_append_drop 16 _).symm
      rw [e1, List.drop_zero, List.append_assoc]
      rw [List.drop_drop] at e2
      rw [← e2, List.take_append_drop]
    rw [recC, ← e]
  · rcases hlen with rfl | ⟨E, R, hE, hEl⟩
    · exact .inl rfl
    · simp only [Prod.mk.injEq] at hx
      exact .inr ⟨x0.1, x1.1, E, R, by rw [hx.1]; simp [hE], hEl⟩
end
end Go.Proofs.Ythdekionepfmdaa
