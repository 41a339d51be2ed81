/- Paths: '[]Key{x}', and what a path is. -/
import Derived.Test.YthdekionepfmdaaRtb
set_option linter.unusedVariables false
set_option linter.unusedSimpArgs false
set_option maxRecDepth 8000
namespace Go.Proofs.Ythdekionepfmdaa
open Go.RowKit

theorem fill_key (k : Key) : Instr.fill (fun i => some (i * 16, 16)) ((Array.range (1 * 16)).map ((kc zeroKey)[· % (kc zeroKey).size]!)) [(0, .agg (kc k))] = some (kc k) := by
  have hz : (Array.range (1 * 16)).map ((kc zeroKey)[· % (kc zeroKey).size]!) = #[.int .u8 0, .int .u8 0, .int .u8 0, .int .u8 0, .int .u8 0, .int .u8 0, .int .u8 0, .int .u8 0, .int .u8 0, .int .u8 0, .int .u8 0, .int .u8 0, .int .u8 0, .int .u8 0, .int .u8 0, .int .u8 0] := by
    kernel_rfl
  rw [hz, kc_lit k]
  simp [Instr.fill, show ∀ cs, (Value.agg cs).cells = cs from fun _ => rfl]
section
variable {P : Program} {ops : Array Oper} {rest : List Oper} {a : Act} {Q : Exit → Act → World → Prop} {w0 W : World} {L : List It} {dst : Option Tmp} {tt : TypeId} {ps : String} {af : Array Edge}
theorem wl_slice1K (t e : TypeId) (x : Operand) (k : Key) (z : Value) (ht : P.underlying t = some (.slice e)) (hs : ∀ w, (sizeOf e).run P w = .ok 16 w) (hz : ∀ w, (zeroValue e).run P w = .ok z w) (hzk : z.cells = kc zeroKey)
    (hx : a.eval x = .agg (kc k)) (HM : Mem w0 W L) (h : ∀ b W', Mem w0 W' (.blk b (kc k) e :: L) → wpList P ops Q rest (a.put dst (.slice (some ⟨b, 0, none⟩) 1 1)) W') :
    wpList P ops Q (Oper.mk dst (.buildSlice t 1 #[(0, x)]) tt ps af none :: rest) a W :=
  wl_buildSlice (dst := dst) (cs := kc k) t 1 #[(0, x)] e 16 z ht hs hz (by decide) (by rw [hzk]; simp only [List.map_toArray, List.map_cons, List.map_nil, hx]; exact fill_key k) HM h
end
/-- The path of an index, from the leaf's sister to the root's. -/
def pathL (l : List Key) (i : Nat) : List Key :=
  if h : l.length ≤ 1 then []
  else if i < splitN l.length then pathL (l.take (splitN l.length)) i ++ [rootL (l.drop (splitN l.length))]
  else pathL (l.drop (splitN l.length)) (i - splitN l.length) ++ [rootL (l.take (splitN l.length))]
termination_by l.length
decreasing_by
  · have := splitN_lt l.length (by omega); simp; omega
  · have := splitN_lt l.length (by omega); simp; omega
theorem pathL_one (l : List Key) (i : Nat) (h : l.length ≤ 1) : pathL l i = [] := by rw [pathL, dif_pos h]
theorem pathL_lo (l : List Key) (i : Nat) (h : 2 ≤ l.length) (hi : i < splitN l.length) : pathL l i = pathL (l.take (splitN l.length)) i ++ [rootL (l.drop (splitN l.length))] := by
  rw [pathL, dif_neg (by omega), if_pos hi]
theorem pathL_hi (l : List Key) (i : Nat) (h : 2 ≤ l.length) (hi : ¬ i < splitN l.length) : pathL l i = pathL (l.drop (splitN l.length)) (i - splitN l.length) ++ [rootL (l.take (splitN l.length))] := by
  rw [pathL, dif_neg (by omega), if_neg hi]
theorem pathL_len : ∀ (n : Nat) (l : List Key) (i : Nat), l.length = n → (pathL l i).length ≤ n := by
  intro n
  induction n using Nat.strongRecOn with
  | ind n ih =>
    intro l i hl
    by_cases h : l.length ≤ 1
    · rw [pathL_one l i h]; simp
    · have hs := splitN_lt l.length (by omega)
      by_cases hi : i < splitN l.length
      · rw [pathL_lo l i (by omega) hi]
        have := ih (splitN l.length) (by omega) (l.take (splitN l.length)) i (by rw [List.length_take]; omega)
        simp; omega
      · rw [pathL_hi l i (by omega) hi]
        have := ih (l.length - splitN l.length) (by omega) (l.drop (splitN l.length)) (i - splitN l.length) (by rw [List.length_drop])
        simp; omega
end Go.Proofs.Ythdekionepfmdaa
