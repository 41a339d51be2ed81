/- AuditRecords: the law's walk. -/
import Derived.Test.YthdekionepfmdaaCih
set_option linter.unusedVariables false
set_option linter.unusedSimpArgs false
set_option maxRecDepth 8000
namespace Go.Proofs.Ythdekionepfmdaa
open Go.RowKit

/-! ### A store into an own row -/
section
variable {P : Program} {ops : Array Oper} {rest : List Oper} {a : Act} {Q : Exit → Act → World → Prop} {w0 W : World} {L : List It} {dst : Option Tmp} {tt : TypeId} {ps : String} {af : Array Edge}
theorem wl_store_row {f : It → List It} (ty : TypeId) (x y : Operand) (g o n cap size : Nat) (e : TypeId) (xs : List Value) (u : Value) (hx : a.eval x = .pointer (some ⟨g, o, none⟩)) (hy : a.eval y = u) (HM : Mem w0 W L)
    (hk : Spot (.row (.slice (some ⟨g, 0, none⟩) n cap) e size n xs) L f) (hi : (P.info? ty).map (·.size) = some 1) (h1 : u.oneCell' = true) (ho : o < xs.length)
    (h : ∀ W', Mem w0 W' (f (.row (.slice (some ⟨g, 0, none⟩) n cap) e size n (xs.set o u))) → wpList P ops Q rest (a.put dst undef) W') : wpList P ops Q (Oper.mk dst (.store ty x y) tt ps af none :: rest) a W := by
  have hown := HM.row hk.mem
  obtain ⟨hlen, ho2⟩ := hown
  rcases ho2 with ⟨h0, _⟩ | ⟨g', cap', cur, hv, hb, hh, hc, hcm, hs, ht⟩
  · cases h0
  · injection hv with hv1 hv2 hv3
    injection hv1 with hv1
    injection hv1 with hv1
    subst hv1; subst hv3
    have hcur : o < cur.size := by
      have : xs.length ≤ cur.toList.length := by rw [← ht]; simp; omega
      simp at this; omega
    have hcell : W.cell? ⟨g, o, none⟩ = some cur[o] := by rw [cell_of_row W g _ cur e _ hh]; simp [hcur]
    have hf : W.frozen? ⟨g, o, none⟩ = false := frozen_of_row W g o cur e hh
    have hu : u.cells = #[u] := by cases u <;> first | rfl | simp [Value.oneCell'] at h1
    have h2 : Mem w0 (W.setRow g (cur.setIfInBounds o u)) (f (.row (.slice (some ⟨g, 0, none⟩) n cap) e size n (xs.set o u))) := by
      refine HM.turn (hk.repl _) (grownBy_setRow W g _) ⟨by simpa using hlen, .inr ⟨g, cap, cur.setIfInBounds o u, rfl, hb, setRow_heap W g cur _ e (0, 0) hh, hc, hcm, by simpa using hs, ?_⟩⟩ (fun b hb => .inl hb)
      rw [← ht, Array.toList_setIfInBounds, List.take_set]
    have h3 := h _ h2
    rw [← setCell_eq_setRow' W g o cur e u hh] at h3
    refine wpList_plain rfl fun K hK => ?_
    cases hq : P.info? ty with
    | none => simp [hq] at hi
    | some i =>
      have hs : i.size = 1 := by simpa [hq] using hi
      have hrun := run_storeCells_cells (P := P) g o [u] 0 W (fun j hj => by simp at hj; subst hj; simp [hcell]) (fun j hj => by simp at hj; subst hj; simpa using hf) (by simpa using h1)
      simp only [World.setCells] at hrun
      unfold Oper.wp execOp
      simp only [hx, hy, Instr.storeAt, Instr.sureAddr, Sem.run_bind, Sem.run_pure, Result.andThen_ok, storeVar, sizeOf, typeInfo, hq, hu, hs]
      simp [hq, hs, hrun]
      exact hK _ _ h3
end

/-! ### The six calls, each in one statement -/
def rA (k x : Key) (l : List UInt8) : Key := if l.length ≤ 16384 then encryptK k x else zeroKey
def rB (x : Key) (l : List UInt8) : Key := if l.length ≤ 16384 then deriveK x 53 0 else zeroKey
def rD (x : Key) (l : List UInt8) : List UInt8 := if l.length ≤ 16384 then streamL x 0 l else []
def rE (l : List UInt8) : Int := if l.length ≤ 16384 then 0 else 4
theorem streamL_len (k : Key) (n : UInt64) (l : List UInt8) : (streamL k n l).length = l.length := by rw [streamL, streamTo_len]
theorem record_any (k x : Key) (v : Value) (l : List UInt8) (w : World) (hR : RdL encB 1 w v l) :
    Calls Try.prog 8 #[.agg (kc k), .agg (kc x), v] w fun e w' => ∃ u, e = .returned (.tuple #[.agg (recC (rA k x l) (rB x l) u), .int .i64 (rE l)]) ∧ Mem w w' [.row u 5 1 (rD x l).length ((rD x l).flatMap encB)] := by
  by_cases h : l.length ≤ 16384
  · simp only [rA, rB, rD, rE, if_pos h, streamL_len]; exact record_c k x v l w hR h
  · simp only [rA, rB, rD, rE, if_neg h]
    exact (record_no k x v l w hR (by omega)).mono fun e w' ⟨h1, h2⟩ => ⟨_, h1, h2.nilrow _ _⟩
theorem rrecord_any (k x : Key) (v : Value) (l : List UInt8) (w : World) (hR : RdL encB 1 w v l) :
    Calls Try.prog 9 #[.agg (kc k), .agg (kc x), v] w fun e w' => ∃ u, e = .returned (.tuple #[.agg (recC (rA k x l) (rB x l) u), .int .i64 (rE l)]) ∧ Mem w w' [.row u 5 1 (rD x l).length ((rD x l).flatMap encB)] := by
  by_cases h : l.length ≤ 16384
  · simp only [rA, rB, rD, rE, if_pos h, streamL_len]; exact rrecord_c k x v l w hR h
  · simp only [rA, rB, rD, rE, if_neg h]
    exact (rrecord_no k x v l w hR (by omega)).mono fun e w' ⟨h1, h2⟩ => ⟨_, h1, h2.nilrow _ _⟩

def okR (k bx ck : Key) : Prop := deriveK (decryptK k bx) 53 0 = ck
instance (k bx ck : Key) : Decidable (okR k bx ck) := inferInstanceAs (Decidable (_ = _))
def kA (k k2 bx ck : Key) : Key := if okR k bx ck then encryptK k2 (decryptK k bx) else zeroKey
def kB (k bx ck : Key) : Key := if okR k bx ck then ck else zeroKey
def kD (k bx ck : Key) (l : List UInt8) : List UInt8 := if okR k bx ck then l else []
def kE (k bx ck : Key) : Int := if okR k bx ck then 0 else 53
theorem rekey_any (k k2 bx ck : Key) (v : Value) (l : List UInt8) (w : World) (hR : RdL encB 1 w v l) (hl : l.length ≤ 140737488351232) :
    Calls Try.prog 11 #[.agg (kc k), .agg (kc k2), .agg (recC bx ck v)] w fun e w' => ∃ u, e = .returned (.tuple #[.agg (recC (kA k k2 bx ck) (kB k bx ck) u), .int .i64 (kE k bx ck)]) ∧ Mem w w' [.row u 5 1 (kD k bx ck l).length ((kD k bx ck l).flatMap encB)] := by
  by_cases h : okR k bx ck
  · simp only [kA, kB, kD, kE, if_pos h]; exact rekey_c k k2 bx ck v l w hR hl h
  · simp only [kA, kB, kD, kE, if_neg h]
    exact (rekey_no k k2 bx ck v l w hR h).mono fun e w' ⟨h1, h2⟩ => ⟨_, h1, h2.nilrow _ _⟩
theorem rrekey_any (k k2 bx ck : Key) (v : Value) (l : List UInt8) (w : World) (hR : RdL encB 1 w v l) (hl : l.length ≤ 140737488351232) :
    Calls Try.prog 12 #[.agg (kc k), .agg (kc k2), .agg (recC bx ck v)] w fun e w' => ∃ u, e = .returned (.tuple #[.agg (recC (kA k k2 bx ck) (kB k bx ck) u), .int .i64 (kE k bx ck)]) ∧ Mem w w' [.row u 5 1 (kD k bx ck l).length ((kD k bx ck l).flatMap encB)] := by
  by_cases h : okR k bx ck
  · simp only [kA, kB, kD, kE, if_pos h]; exact rrekey_c k k2 bx ck v l w hR hl h
  · simp only [kA, kB, kD, kE, if_neg h]
    exact (rrekey_no k k2 bx ck v l w hR h).mono fun e w' ⟨h1, h2⟩ => ⟨_, h1, h2.nilrow _ _⟩

def pD (k bx ck : Key) (l : List UInt8) : List UInt8 := if l.length ≤ 16384 then (if okR k bx ck then streamL (decryptK k bx) 0 l else []) else []
def pE (k bx ck : Key) (l : List UInt8) : Int := if l.length ≤ 16384 then (if okR k bx ck then 0 else 53) else 4
theorem play_any (k bx ck : Key) (v : Value) (l : List UInt8) (w : World) (hR : RdL encB 1 w v l) :
    Calls Try.prog 13 #[.agg (kc k), .agg (recC bx ck v)] w fun e w' => ∃ u, e = .returned (.tuple #[u, .int .i64 (pE k bx ck l)]) ∧ Mem w w' [.row u 5 1 (pD k bx ck l).length ((pD k bx ck l).flatMap encB)] := by
  by_cases h0 : l.length ≤ 16384
  · by_cases h : okR k bx ck
    · simp only [pD, pE, if_pos h0, if_pos h, streamL_len]; exact play_c k bx ck v l w hR h0 h
    · simp only [pD, pE, if_pos h0, if_neg h]
      exact (play_no k bx ck v l w hR h0 h).mono fun e w' ⟨h1, h2⟩ => ⟨_, h1, h2.nilrow _ _⟩
  · simp only [pD, pE, if_neg h0]
    exact (play_many k bx ck v l w hR (by omega)).mono fun e w' ⟨h1, h2⟩ => ⟨_, h1, h2.nilrow _ _⟩
theorem rplay_any (k bx ck : Key) (v : Value) (l : List UInt8) (w : World) (hR : RdL encB 1 w v l) :
    Calls Try.prog 14 #[.agg (kc k), .agg (recC bx ck v)] w fun e w' => ∃ u, e = .returned (.tuple #[u, .int .i64 (pE k bx ck l)]) ∧ Mem w w' [.row u 5 1 (pD k bx ck l).length ((pD k bx ck l).flatMap encB)] := by
  by_cases h0 : l.length ≤ 16384
  · by_cases h : okR k bx ck
    · simp only [pD, pE, if_pos h0, if_pos h, streamL_len]; exact rplay_c k bx ck v l w hR h0 h
    · simp only [pD, pE, if_pos h0, if_neg h]
      exact (rplay_no k bx ck v l w hR h0 h).mono fun e w' ⟨h1, h2⟩ => ⟨_, h1, h2.nilrow _ _⟩
  · simp only [pD, pE, if_neg h0]
    exact (rplay_many k bx ck v l w hR (by omega)).mono fun e w' ⟨h1, h2⟩ => ⟨_, h1, h2.nilrow _ _⟩
end Go.Proofs.Ythdekionepfmdaa
