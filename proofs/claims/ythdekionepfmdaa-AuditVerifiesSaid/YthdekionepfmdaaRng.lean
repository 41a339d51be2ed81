/- A range over a function, over an opaque world: the iterator's contract and the caller's law, both by 'Mem'. Plain theorems; nothing of the program is named. -/
import Derived.Test.YthdekionepfmdaaRet
import Derived.RangeFuncLeaves
import Derived.RangeFuncCalls
import Derived.RangeFuncOwn
import Derived.OwnWalkIn
import Derived.TacticsInMore
import Derived.LoopIn
import Derived.LoopNIn
import Derived.Shelf.Abstract
set_option linter.unusedVariables false
set_option linter.unusedSimpArgs false
namespace Go.Proofs.Ythdekionepfmdaa
open Go.RowKit

section
variable {P : Program} {n : Nat}
/-- A plain list of operations, carried out in a round (or anywhere in the wide fence). -/
theorem listIn_of {F : Fence} (hF : F = Fence.wide ∨ ∃ l, F = Fence.wide.inRound l) {ops : Array Oper} {Q : Exit → Act → World → Prop} (hQ : ¬ LetsOut Q) :
    ∀ (l : List Oper) (a : Act) (w : World), (∀ o ∈ l, ∀ c, o.op ≠ .defer c) → wpList P ops Q l a w → wpListIn F n P ops Q l a w := by
  have hfn : ∀ f, F.fn f := by rcases hF with rfl | ⟨l, rfl⟩ <;> exact fun _ => trivial
  have hdp : F.depth = none := by rcases hF with rfl | ⟨l, rfl⟩ <;> rfl
  have hca : ∀ {m f args w R}, Calls P f args w R → CallsIn F m P f args w R := by
    intro m f args w R h
    rcases hF with rfl | ⟨l, rfl⟩
    · exact callsIn_wide.2 h
    · exact CallsIn.inRound l (callsIn_wide.2 h)
  have hro : ∀ {m row args w R}, Rows P row args w R → RowsIn F m P row args w R := by
    intro m row args w R h c cs _
    obtain ⟨v, w', r, s⟩ := h c cs
    refine ⟨v, w', r, (StepsIn.of_steps s).mono fun m _ => ?_⟩
    rcases hF with rfl | ⟨l, rfl⟩
    · exact fenced_wide P m
    · exact fenced_wide P m
  intro l
  induction l with
  | nil => intro a w _ h; exact h
  | cons o l ih =>
    intro a w hd h
    have hd' : ∀ o ∈ l, ∀ c, o.op ≠ .defer c := fun x hx => hd x (List.mem_cons_of_mem _ hx)
    unfold wpListIn
    unfold wpList at h
    by_cases hw : Region.wanted o (yielded ops a.tmps) = true
    · simp only [hw, if_true] at h ⊢
      rcases h with h | ⟨_, h⟩
      · refine ⟨fun f _ => hfn f, ?_⟩
        rw [Oper.semAt_plain F _ _ (hd o m0)]
        unfold Oper.wp at h
        revert h
        generalize (execOp a.eval o).run P w = r
        intro h
        cases r with
        | ok x w' =>
          cases x with
          | value v => exact ih _ _ hd' h
          | skip => exact ih _ _ hd' h
          | defer d => exact ih _ _ hd' h
          | enter f args =>
            refine ⟨fun e => (by rw [hdp] at e; cases e), hca (Calls.mono h fun e w'' hr => ?_)⟩
            cases e with
            | returned v => exact ih _ _ hd' hr
            | panicked ch => exact hr
            | outgrown => exact hr
          | row row args => exact ⟨fun e => (by rw [hdp] at e; cases e), hro (Rows.mono h fun v w'' hr => ih _ _ hd' hr)⟩
          | _ => exact h.elim
        | halt y w' => cases y <;> first | exact h | exact h.elim
      · exact absurd (by obtain ⟨a0, w0, h0⟩ := h; exact ⟨a0, w0, h0⟩) hQ
    · simp only [hw, if_false, Bool.false_eq_true] at h ⊢
      exact ⟨fun f _ => hfn f, ih _ _ hd' h⟩

theorem listIn_round {r : Nat} {ops : Array Oper} {Q : Exit → Act → World → Prop} {l : List Oper} {a : Act} {w : World} (hQ : ¬ LetsOut Q) (hd : ∀ o ∈ l, ∀ c, o.op ≠ .defer c)
    (h : wpList P ops Q l a w) : wpListIn (Fence.wide.inRound r) n P ops Q l a w := listIn_of (.inr ⟨r, rfl⟩) hQ l a w hd h
theorem listIn_wide {ops : Array Oper} {Q : Exit → Act → World → Prop} {l : List Oper} {a : Act} {w : World} (hQ : ¬ LetsOut Q) (hd : ∀ o ∈ l, ∀ c, o.op ≠ .defer c)
    (h : wpList P ops Q l a w) : wpListIn Fence.wide n P ops Q l a w := listIn_of (.inl rfl) hQ l a w hd h
def noDefer (l : List Oper) : Bool := l.all (fun o => match o.op with | .defer _ => false | _ => true)
theorem noDefer_spec {l : List Oper} (hd : noDefer l = true) : ∀ o ∈ l, ∀ c, o.op ≠ .defer c := fun o ho c hc => by have := List.all_eq_true.1 hd o ho; rw [hc] at this; cases this
theorem opsIn_round {r : Nat} {ops : Array Oper} {Q : Exit → Act → World → Prop} {l : List Oper} {a : Act} {w : World} (hQ : ¬ LetsOut Q) (hd : noDefer l = true)
    (h : wpList P ops Q l a w) : wpListIn (Fence.wide.inRound r) n P ops Q l a w := listIn_round hQ (noDefer_spec hd) h
theorem opsIn_wide {ops : Array Oper} {Q : Exit → Act → World → Prop} {l : List Oper} {a : Act} {w : World} (hQ : ¬ LetsOut Q) (hd : noDefer l = true)
    (h : wpList P ops Q l a w) : wpListIn Fence.wide n P ops Q l a w := listIn_wide hQ (noDefer_spec hd) h
theorem regionIn_round {r id : Nat} {Q : Exit → Act → World → Prop} {l : List Oper} {a : Act} {w : World} (hQ : ¬ LetsOut Q) (hd : l.all (fun o => match o.op with | .defer _ => false | _ => true) = true)
    (h : wpList P l.toArray Q l a w) : (Code.region id l.toArray false).wpIn (Fence.wide.inRound r) n P Q a w :=
  wpIn_region_lit (listIn_round hQ (fun o ho c hc => by have := List.all_eq_true.1 hd o ho; rw [hc] at this; cases this) h)
theorem regionIn_wide {id : Nat} {Q : Exit → Act → World → Prop} {l : List Oper} {a : Act} {w : World} (hQ : ¬ LetsOut Q) (hd : l.all (fun o => match o.op with | .defer _ => false | _ => true) = true)
    (h : wpList P l.toArray Q l a w) : (Code.region id l.toArray false).wpIn Fence.wide n P Q a w :=
  wpIn_region_lit (listIn_wide hQ (fun o ho c hc => by have := List.all_eq_true.1 hd o ho; rw [hc] at this; cases this) h)
/-- The first operations by the plain walk, the rest in the fence. -/
theorem listIn_app {F : Fence} {ops : Array Oper} {Q : Exit → Act → World → Prop} (l1 l2 : List Oper) : ∀ {a : Act} {w : World}, wpListIn F n P ops (Exit.then (wpListIn F n P ops Q l2) Q) l1 a w → wpListIn F n P ops Q (l1 ++ l2) a w := by
  induction l1 with
  | nil => intro a w h; exact h
  | cons o l1 ih =>
    intro a w h
    rw [List.cons_append]
    unfold wpListIn at h ⊢
    split
    · rename_i hw
      simp only [hw, if_true] at h
      refine ⟨h.1, ?_⟩
      have h2 := h.2
      revert h2
      generalize (o.semAt F.round a.eval).run P w = r
      intro h2
      cases r with
      | ok x w' =>
        cases x with
        | value v => exact ih h2
        | skip => exact ih h2
        | defer d => exact ih h2
        | enter f args =>
          refine ⟨h2.1, CallsIn.mono h2.2 fun e w'' hr => ?_⟩
          cases e with
          | returned v => exact ih hr
          | panicked ch => exact hr
          | outgrown => exact hr
        | row row args => exact ⟨h2.1, RowsIn.mono h2.2 fun v w'' hr => ih hr⟩
        | round l f tmps assign body =>
          refine ⟨h2.1, RoundIn.mono h2.2 fun e w'' hr => ?_⟩
          cases e with
          | returned v => exact ih hr
          | panicked ch => exact hr
          | outgrown => exact hr
        | _ => exact h2.elim
      | halt y w' => cases y <;> first | exact h2 | exact h2.elim
    · rename_i hw
      simp only [hw, if_false, Bool.false_eq_true] at h
      exact ⟨h.1, ih h.2⟩
theorem listIn_split {F : Fence} {ops : Array Oper} {Q : Exit → Act → World → Prop} {l : List Oper} (k : Nat) {a : Act} {w : World} (h : wpListIn F n P ops (Exit.then (wpListIn F n P ops Q (l.drop k)) Q) (l.take k) a w) : wpListIn F n P ops Q l a w := by
  have := listIn_app (F := F) (n := n) (P := P) (ops := ops) (Q := Q) (l.take k) (l.drop k) h
  rwa [List.take_append_drop] at this
theorem lets_then {K : Act → World → Prop} {Q : Exit → Act → World → Prop} (h : ¬ LetsOut Q) : ¬ LetsOut (Exit.then K Q) := fun ⟨a, w, h'⟩ => h ⟨a, w, h'⟩
theorem lets_block {id : Nat} {Q : Exit → Act → World → Prop} (h : ¬ LetsOut Q) : ¬ LetsOut (Exit.inBlock id Q) := fun ⟨a, w, h'⟩ => h ⟨a, w, h'⟩
theorem Calls.plain {F : Fence} (hF : F = Fence.wide ∨ ∃ l, F = Fence.wide.inRound l) {m : Nat} {f : FuncId} {args : Array Value} {w : World} {R : Ending → World → Prop} (h : Calls P f args w R) : CallsIn F m P f args w R := by
  rcases hF with rfl | ⟨l, rfl⟩
  · exact callsIn_wide.2 h
  · exact CallsIn.inRound l (callsIn_wide.2 h)

/-- **What an iterator does**: for each x of xs in order it calls yield, till a round says no more. 'L' is what the caller owns, 'X' what the iterator has laid beside. -/
def Iterates {α : Type} (P : Program) (gf : Nat) (lb : Array Value) (encs : α → Array Value) (xs : List α) (w0 : World) (Rd : World → Prop) : Prop :=
  ∀ (l m : Nat) (J : List α → List It → Prop) (Jx : List α → List It → Prop) (W : World) (L : List It), J [] L → Mem w0 W L → (∀ pre L X W, J pre L → pre <+: xs → Mem w0 W (X ++ L) → Rd W) →
    (∀ pre x L X W, J pre L → pre ++ [x] <+: xs → Mem w0 W (X ++ L) → YieldAt Fence.wide m P l (encs x) W fun e W' =>
      (e = .returned (.bool true) ∧ ∃ L', J (pre ++ [x]) L' ∧ Mem w0 W' (X ++ L')) ∨ (e = .returned (.bool false) ∧ ∃ L', Jx (pre ++ [x]) L' ∧ Mem w0 W' (X ++ L'))) →
    CallsIn Fence.wide (m + 1) P gf (#[.func (.yield l) #[] #[]] ++ lb) W fun e W' => (∃ v, e = .returned v) ∧ ((∃ L', J xs L' ∧ Mem w0 W' L') ∨ (∃ pre L', pre <+: xs ∧ Jx pre L' ∧ Mem w0 W' L'))

/-- How the body of a round may be left. -/
def roundP {α : Type} (w0 : World) (J : List α → List It → Prop) (Jx : Code → List α → List It → Prop) (xs : List α) (X : List It) : Exit → Act → World → Prop
  | .normal, _, W' => ∃ L', J xs L' ∧ Mem w0 W' (L' ++ X)
  | .ret, _, W' => ∃ L', Jx .ret xs L' ∧ Mem w0 W' (L' ++ X)
  | .exit id, _, W' => ∃ L', Jx (.exit id) xs L' ∧ Mem w0 W' (L' ++ X)
  | .goto t, _, W' => ∃ L', Jx (.goto t) xs L' ∧ Mem w0 W' (L' ++ X)
  | .panic _, _, _ => False
  | .outgrown, _, _ => False

/-- **The statement 'for .. := range g'.** -/
theorem wpIn_rangeFunc_mem {α : Type} {g : Operand} {ps : Array Tmp} {assign body : Code} {Q : Exit → Act → World → Prop} {a : Act} {w0 w : World} {L0 : List It} (hm : n = 2)
    {gf : Nat} {lb : Array Value} (hg : a.eval g = .func (.func gf) #[] lb) (eg : ∀ args w, (callFunc gf args).run P w = .ok (.enter gf args) w)
    {encs : α → Array Value} {xs : List α} {Rd : World → Prop} (hit : Iterates P gf lb encs xs w0 Rd) (hps : ∀ x, (encs x).size = ps.size)
    (J : List α → List It → Prop) (Jx : Code → List α → List It → Prop) (HM : Mem w0 w L0) (h0 : J [] L0) (hRd : ∀ pre L X W, J pre L → pre <+: xs → Mem w0 W (L ++ X) → Rd W)
    (hround : ∀ (l : Nat) (pre : List α) (x : α) (L X : List It) (W1 W : World), J pre L → pre ++ [x] <+: xs → Mem w0 W (L ++ X) →
      assign.wpIn (Fence.wide.inRound l) 0 P (Exit.then (fun a' W' => W' = W1 ∧ body.wpIn (Fence.wide.inRound l) 0 P (roundP w0 J Jx (pre ++ [x]) X) a' W) (fun _ _ _ => False))
        { tmps := (ps.zip (encs x)).foldl (fun t (p, v) => t.setIfInBounds p v) a.tmps, defers := [] } W1)
    (hdone : ∀ (D : Nat) (L : List It) (W : World), J xs L → Mem w0 W (L ++ [.obj D (.deferred (some []))]) → Q .normal { a with defers := { target := .collected D, args := #[] } :: a.defers } W)
    (hstop : ∀ (D : Nat) (c : Code) (pre : List α) (L : List It) (W : World), pre <+: xs → Jx c pre L → Mem w0 W (L ++ [.obj D (.deferred (some []))]) → c.wpIn Fence.wide n P Q { a with defers := { target := .collected D, args := #[] } :: a.defers } W) :
    (Code.rangeFunc g ps assign body).wpIn Fence.wide n P Q a w := by
  subst hm
  refine wpIn_rangeFunc ?_
  intro fn hfn
  obtain ⟨rec, hrec⟩ : ∃ rec : LoopState → Option Code → Loop, rec = fun st pe => { state := st, pending := pe, fn, tmps := a.tmps, params := ps, assign, body, defers := w.heap.size } := ⟨_, rfl⟩
  obtain ⟨W1, hW1⟩ : ∃ W1, (w.alloc (.deferred (some []))).alloc (.loop (rec .ready none)) = W1 := ⟨_, rfl⟩
  have HM1 := (HM.newObj (.deferred (some []))).newObj (.loop (rec .ready none))
  rw [World.size_alloc, hW1] at HM1
  have turn : ∀ {L : List It} {W : World} {st st' : LoopState} {pe pe' : Option Code} (X : List It), Mem w0 W (X ++ .obj (w.heap.size + 1) (.loop (rec st pe)) :: L) →
      W.heap[w.heap.size + 1]? = some (.loop (rec st pe)) ∧ Mem w0 (W.putObj (w.heap.size + 1) (.loop (rec st' pe'))) (X ++ .obj (w.heap.size + 1) (.loop (rec st' pe')) :: L) := by
    intro L W st st' pe pe' X h
    have hl := h.obj (b := w.heap.size + 1) (o := .loop (rec st pe)) (by simp)
    refine ⟨hl, h.turn (x := .obj (w.heap.size + 1) (.loop (rec st pe))) (x' := .obj (w.heap.size + 1) (.loop (rec st' pe'))) ?_ (grownBy_putObj' W _ _) ?_ (fun b hb => .inl hb)⟩
    · clear h
      induction X with
      | nil => exact .here
      | cons x X ih => exact .there ih
    · exact ⟨(h.ok (.obj (w.heap.size + 1) (.loop (rec st pe))) (by simp)).1, World.putObj_heap_same (Array.getElem?_eq_some_iff.1 hl).1⟩
  have mv : ∀ {L X : List It} {x : It} {W : World}, Mem w0 W (X ++ x :: L) → Mem w0 W (x :: (X ++ L)) := fun h => h.perm List.perm_middle
  have vm : ∀ {L X : List It} {x : It} {W : World}, Mem w0 W (x :: (X ++ L)) → Mem w0 W (X ++ x :: L) := fun h => h.perm List.perm_middle.symm
  refine ⟨w.heap.size + 1, [{ target := .collected w.heap.size, args := #[] }], W1, { target := .fn (.func gf) lb, args := #[.func (.yield (w.heap.size + 1)) #[] #[]] }, W1, gf,
    #[.func (.yield (w.heap.size + 1)) #[] #[]] ++ lb, W1, ?_, ?_, ?_, ?_, fun h => (by cases h), ?_⟩
  · rw [← hW1, hrec]; exact run_enterLoop_outer _ _ _ _ _
  · simp only [resolve, hg]
    simp [go_sem]
  · exact fun _ _ => trivial
  · simp [invoke, go_sem, eg]
  · refine (hit (w.heap.size + 1) 0
      (fun pre L => ∃ L1, J pre L1 ∧ L = .obj (w.heap.size + 1) (.loop (rec .ready none)) :: .obj w.heap.size (.deferred (some [])) :: L1)
      (fun pre L => ∃ c L1, Jx c pre L1 ∧ L = .obj (w.heap.size + 1) (.loop (rec .done (some c))) :: .obj w.heap.size (.deferred (some [])) :: L1)
      W1 _ ⟨L0, h0, rfl⟩ HM1 ?_ ?_).mono ?_
    · rintro pre L X W ⟨L1, hj, rfl⟩ hp hM
      refine hRd pre L1 (X ++ [.obj (w.heap.size + 1) (.loop (rec .ready none)), .obj w.heap.size (.deferred (some []))]) W hj hp (hM.perm ?_)
      refine List.Perm.trans (l₂ := (X ++ [.obj (w.heap.size + 1) (.loop (rec .ready none)), .obj w.heap.size (.deferred (some []))]) ++ L1) ?_ List.perm_append_comm
      simp
    · rintro pre x L X W ⟨L1, hj, rfl⟩ hp hM
      obtain ⟨hl, hM2⟩ := turn (st' := .busy) (pe' := none) X hM
      have hy := run_yield (P := P) (args := encs x) hl (by rw [hrec]; exact hps x)
      rw [hrec] at hy
      have hM3 : Mem w0 (W.putObj (w.heap.size + 1) (.loop { rec .ready none with state := .busy })) (L1 ++ (X ++ [.obj (w.heap.size + 1) (.loop (rec .busy none)), .obj w.heap.size (.deferred (some []))])) := by
        have e : (.loop { rec .ready none with state := .busy } : Obj) = .loop (rec .busy none) := by rw [hrec]
        rw [e]
        refine hM2.perm ?_
        refine List.Perm.trans (l₂ := (X ++ [.obj (w.heap.size + 1) (.loop (rec .busy none)), .obj w.heap.size (.deferred (some []))]) ++ L1) ?_ List.perm_append_comm
        simp
      have back : ∀ {L' : List It} {W' : World}, Mem w0 W' (L' ++ (X ++ [.obj (w.heap.size + 1) (.loop (rec .busy none)), .obj w.heap.size (.deferred (some []))])) →
          Mem w0 W' (X ++ .obj (w.heap.size + 1) (.loop (rec .busy none)) :: .obj w.heap.size (.deferred (some [])) :: L') := by
        intro L' W' h
        refine h.perm ?_
        refine List.Perm.trans List.perm_append_comm ?_
        simp
      have fin : ∀ (jump : Option Code) {L' : List It} {W3 : World}, Mem w0 W3 (L' ++ (X ++ [.obj (w.heap.size + 1) (.loop (rec .busy none)), .obj w.heap.size (.deferred (some []))])) →
          (Instr.endRound (w.heap.size + 1) jump).run P W3 = .ok (.bool jump.isNone) (W3.putObj (w.heap.size + 1) (.loop (rec (if jump.isNone then .ready else .done) jump))) ∧
          Mem w0 (W3.putObj (w.heap.size + 1) (.loop (rec (if jump.isNone then .ready else .done) jump))) (X ++ .obj (w.heap.size + 1) (.loop (rec (if jump.isNone then .ready else .done) jump)) :: .obj w.heap.size (.deferred (some [])) :: L') := by
        intro jump L' W3 h
        obtain ⟨hl3, hM4⟩ := turn (st' := if jump.isNone then .ready else .done) (pe' := jump) X (back h)
        refine ⟨?_, hM4⟩
        have := run_endRound (P := P) jump hl3
        rw [hrec] at this ⊢
        exact this
      have hbeg := run_beginRound (P := P) hl (by rw [hrec])
      refine ⟨fn, _, assign, body, hy, roundIn_of_wpIn trivial (wpIn_mono (hround _ pre x L1 _ W _ hj hp hM3) ?_)⟩
      rintro e1 a1 W1' h1
      cases e1 with
      | normal => ?_
      | ret => exact h1.elim
      | exit id => exact h1.elim
      | goto t => exact h1.elim
      | panic ch => exact h1.elim
      | outgrown => exact h1.elim
      obtain ⟨rfl, hb1⟩ := h1
      refine ⟨_, hbeg, wpIn_mono hb1 ?_⟩
      rintro e a3 W3 hp3
      cases e with
      | normal =>
        obtain ⟨L', hj', hM'⟩ := hp3
        obtain ⟨hr, hM4⟩ := fin none hM'
        exact ⟨_, _, hr, .inl ⟨rfl, _, ⟨L', hj', rfl⟩, hM4⟩⟩
      | ret =>
        obtain ⟨L', hj', hM'⟩ := hp3
        obtain ⟨hr, hM4⟩ := fin (some .ret) hM'
        exact ⟨_, _, hr, .inr ⟨rfl, _, ⟨.ret, L', hj', rfl⟩, hM4⟩⟩
      | exit id =>
        obtain ⟨L', hj', hM'⟩ := hp3
        obtain ⟨hr, hM4⟩ := fin (some (.exit id)) hM'
        exact ⟨_, _, hr, .inr ⟨rfl, _, ⟨.exit id, L', hj', rfl⟩, hM4⟩⟩
      | goto t =>
        obtain ⟨L', hj', hM'⟩ := hp3
        obtain ⟨hr, hM4⟩ := fin (some (.goto t)) hM'
        exact ⟨_, _, hr, .inr ⟨rfl, _, ⟨.goto t, L', hj', rfl⟩, hM4⟩⟩
      | panic ch => exact hp3.elim
      | outgrown => exact hp3.elim
    · have last : ∀ {L' : List It} {W' : World} {o : Obj}, Mem w0 W' (.obj (w.heap.size + 1) o :: .obj w.heap.size (.deferred (some [])) :: L') → Mem w0 W' (L' ++ [.obj w.heap.size (.deferred (some []))]) :=
        fun h => h.tail.perm (List.perm_append_comm (l₁ := [_]))
      rintro e W2 ⟨⟨v, rfl⟩, (⟨_, ⟨L', hj', rfl⟩, hM'⟩ | ⟨pre, _, hpre, ⟨c, L', hj', rfl⟩, hM'⟩)⟩
      · obtain ⟨hl, hM2⟩ := turn (st' := .exhausted) (pe' := none) [] hM'
        exact ⟨none, _, by have := run_endLoop (P := P) hl (by rw [hrec]; simp); rw [hrec] at this; exact this, hdone _ L' _ hj' (by rw [hrec] at hM2; exact last hM2)⟩
      · obtain ⟨hl, hM2⟩ := turn (st' := .exhausted) (pe' := some c) [] hM'
        exact ⟨some c, _, by have := run_endLoop (P := P) hl (by rw [hrec]; simp); rw [hrec] at this; exact this, hstop _ c pre L' _ hpre hj' (by rw [hrec] at hM2; exact last hM2)⟩
theorem lets_round {α : Type} {w0 : World} {J : List α → List It → Prop} {Jx : Code → List α → List It → Prop} {xs : List α} {X : List It} : ¬ LetsOut (roundP w0 J Jx xs X) := fun ⟨_, _, h⟩ => h

theorem wp_rangeFunc_mem {α : Type} {g : Operand} {ps : Array Tmp} {assign body : Code} {Q : Exit → Act → World → Prop} {a : Act} {w0 w : World} {L0 : List It}
    {gf : Nat} {lb : Array Value} (hg : a.eval g = .func (.func gf) #[] lb) (eg : ∀ args w, (callFunc gf args).run P w = .ok (.enter gf args) w)
    {encs : α → Array Value} {xs : List α} {Rd : World → Prop} (hit : Iterates P gf lb encs xs w0 Rd) (hps : ∀ x, (encs x).size = ps.size)
    (J : List α → List It → Prop) (Jx : Code → List α → List It → Prop) (HM : Mem w0 w L0) (h0 : J [] L0) (hRd : ∀ pre L X W, J pre L → pre <+: xs → Mem w0 W (L ++ X) → Rd W)
    (hround : ∀ (l : Nat) (pre : List α) (x : α) (L X : List It) (W1 W : World), J pre L → pre ++ [x] <+: xs → Mem w0 W (L ++ X) →
      assign.wpIn (Fence.wide.inRound l) 0 P (Exit.then (fun a' W' => W' = W1 ∧ body.wpIn (Fence.wide.inRound l) 0 P (roundP w0 J Jx (pre ++ [x]) X) a' W) (fun _ _ _ => False))
        { tmps := (ps.zip (encs x)).foldl (fun t (p, v) => t.setIfInBounds p v) a.tmps, defers := [] } W1)
    (hdone : ∀ (D : Nat) (L : List It) (W : World), J xs L → Mem w0 W (L ++ [.obj D (.deferred (some []))]) → Q .normal { a with defers := { target := .collected D, args := #[] } :: a.defers } W)
    (hstop : ∀ (D : Nat) (c : Code) (pre : List α) (L : List It) (W : World), pre <+: xs → Jx c pre L → Mem w0 W (L ++ [.obj D (.deferred (some []))]) → c.wp P Q { a with defers := { target := .collected D, args := #[] } :: a.defers } W) :
    (Code.rangeFunc g ps assign body).wp P Q a w :=
  wpIn_wide.1 (wpIn_rangeFunc_mem (n := 2) rfl hg eg hit hps J Jx HM h0 hRd hround hdone (fun D c pre L W h1 h2 h3 => wpIn_wide.2 (hstop D c pre L W h1 h2 h3)))

theorem calls_of_marks {f : FuncId} {fn : Func} {c : Code} {args : Array Value} {w : World} {R : Ending → World → Prop}
    (hf : P.funcs[f]? = some fn) (hb : fn.body = some c)
    (h : c.wp P (bodyPostM Fence.wide 2 P fn R) { tmps := args ++ Array.replicate (fn.ntmps - args.size) undef, defers := [] } w) : Calls P f args w R :=
  callsIn_wide.1 (callsIn_of_wp_marks hf hb trivial (wpIn_wide.2 h))

/-- The way out of a function in which such a loop stands. -/
theorem leaves_mark {fn : Func} {R : Ending → World → Prop} {a : Act} {w0 w : World} {L : List It} {f : It → List It} {D : Nat} (hd : a.defers = [{ target := .collected D, args := #[] }]) (HM : Mem w0 w L)
    (hk : Spot (.obj D (.deferred (some []))) L f) (h : ∀ W, Mem w0 W (f (.obj D (.deferred none))) → bodyPost P fn R .ret { a with defers := [] } W) : bodyPostM Fence.wide 2 P fn R .ret a w := by
  have hk' := HM.obj hk.mem
  have HM' : Mem w0 (w.putObj D (.deferred none)) (f (.obj D (.deferred none))) :=
    HM.turn (hk.repl _) (grownBy_putObj' w D _) ⟨(HM.ok _ hk.mem).1, World.putObj_heap_same (Array.getElem?_eq_some_iff.1 hk').1⟩ (fun b hb => .inl hb)
  obtain ⟨_, v, hv, hR⟩ := h _ HM'
  show LeavesInM Fence.wide 2 P fn a.tmps R a.defers .returning w
  rw [hd]
  exact ⟨by simp, .inl ⟨_, _, rfl, run_takeDeferred hk', v, hv, hR⟩⟩
end
end Go.Proofs.Ythdekionepfmdaa
