import Derived.Test.YtfbpaonmegmcgaaGreatLibB
import Derived.Below
import Derived.ChangeSame
set_option linter.all false
/- The evaluator over abstract states: it is sound. -/
namespace Go.Lom
open Go.RowKit
def avEq : Nat -> AV -> AV -> Bool
 | 0, _, _ => false
 | n + 1, x, y =>
  let all : List AV -> List AV -> Bool := fun a b => a.length == b.length && (a.zip b).all fun p => avEq n p.1 p.2
  match x, y with
  | .undef, .undef | .nilp, .nilp | .nils, .nils | .emp, .emp | .nilm, .nilm | .nilf, .nilf | .nili, .nili => true
  | .bool a, .bool b => a == b
  | .int j a, .int k b => j == k && a == b
  | .str a, .str b => a == b
  | .ptr b i o, .ptr c j p => b == c && i == j && o == p
  | .rp e o, .rp f p => all e f && o == p
  | .sl b s o l c, .sl b' s' o' l' c' => b == b' && s == s' && o == o' && l == l' && c == c'
  | .rs xs, .rs ys => xs.length == ys.length && (xs.zip ys).all fun p => all p.1 p.2
  | .mp b, .mp c => b == c
  | .fn f a c, .fn g b d => f == g && all a b && all c d
  | .iface t v, .iface u w => t == u && avEq n v w
  | .agg a, .agg b => all a b
  | .tup a, .tup b => all a b
  | _, _ => false
inductive Tgt where
 | f (k : FuncId)
 | y (b : Nat)
abbrev CallF := Tgt -> List AV -> Heap -> Nat -> Option (AE × Heap × Nat)
def SCallT (P : Program) : Tgt -> List AV -> Heap -> Nat -> (AE -> Heap -> Nat -> Prop) -> Prop
 | .f k => SCall P k
 | .y b => SYield P b
def runOp (P : Program) (call : CallF) (o : Oper) (F : Fr) (H : Heap) (nx : Nat) (df : List ADef) : Option (AE × Heap × Nat × List ADef) :=
 match o.op with
 | .panic x => match ev F x with
  | .iface t v => some (.panic (.iface t v), H, nx, df)
  | _ => none
 | .defer c => match c.callee with
  | .value f => do
   let (k, first, cap) <- calleeOf (ev F f)
   if funcOk P k then some (.ret .undef, H, nx, .call k (first ++ c.args.toList.map (ev F) ++ cap) :: df) else none
  | _ => none
 | .call { callee := .value f, args, .. } => match ev F f with
  | .yf b => (call (.y b) (args.toList.map (ev F)) H nx).map fun (e, H', nx') => (e, H', nx', df)
  | fv => do
   let (k, first, cap) <- calleeOf fv
   if funcOk P k then (call (.f k) (first ++ args.toList.map (ev F) ++ cap) H nx).map fun (e, H', nx') => (e, H', nx', df) else none
 | _ => match aq P o.op F H with
  | some r => some (.ret r, H, nx, df)
  | none => (ae P o.op F H nx).map fun (r, H', nx') => (.ret r, H', nx', df)
def wantedA (ops : Array Oper) (F : Fr) (o : Oper) : Option Bool :=
 match o.guard with
 | none => some true
 | some (j, want) => (guardV ops F j).map fun b => b == some want
def runOps (P : Program) (N : Nat) (call : CallF) (ops : Array Oper) : List Oper -> St -> Option (AX × St)
 | [], σ => some (.normal, σ)
 | o :: rest, σ => if dstOk N o then
  match wantedA ops σ.fr o with
  | some true => match runOp P call o σ.fr σ.H σ.nx σ.df with
   | some (.ret r, H, nx, df) => runOps P N call ops rest ⟨σ.fr.put o.dst r, H, nx, df⟩
   | some (.panic v, H, nx, _) => some (.panic v, ⟨σ.fr, H, nx, σ.df⟩)
   | none => none
  | some false => runOps P N call ops rest { σ with fr := σ.fr.put o.dst skipV }
  | none => none
  else none
def stableB (P : Program) (ops : Array Oper) (F : Fr) (H : Heap) (p : Nat) : Bool :=
 match ops[p]? with
 | some o => match aq P o.op F H with
  | some r => match o.dst with
   | some d => avEq 20 (F.get d) r
   | none => true
  | none => false
 | none => true
def runReg (P : Program) (N : Nat) (call : CallF) (ops : Array Oper) (ms : List Nat) : List Nat -> List Nat -> List Nat -> St -> Option (AX × St)
 | [], seen, pend, σ => some (.normal, σ)
 | i :: rest, seen, pend, σ => match ops[i]? with
  | none => none
  | some o => if dstOk N o then
   match wantedA ops σ.fr o with
   | some true => if freeB ops ms seen o then
     match lateV P o.op σ.fr σ.H with
     | some r => runReg P N call ops ms rest (i :: seen) (if readsQ o.op then i :: pend else pend) { σ with fr := σ.fr.put o.dst r }
     | none => none
    else match runOp P call o σ.fr σ.H σ.nx σ.df with
     | some (.ret r, H, nx, df) => if pend.all fun p => preB ms p i || stableB P ops (σ.fr.put o.dst r) H p then runReg P N call ops ms rest (i :: seen) pend ⟨σ.fr.put o.dst r, H, nx, df⟩ else none
     | some (.panic v, H, nx, _) => some (.panic v, ⟨forget ops σ.fr, H, nx, σ.df⟩)
     | none => none
   | some false => runReg P N call ops ms rest (i :: seen) pend { σ with fr := σ.fr.put o.dst skipV }
   | none => none
   else none
def tidy (m : Nat) : Fr -> Fr
 | [] => []
 | (t, v) :: F => match Nat.beq (Nat.land (Nat.shiftRight m t) 1) 1 with
  | true => tidy m F
  | false => (t, v) :: tidy (Nat.lor m (Nat.shiftLeft 1 t)) F
def loopN : Nat -> (St -> Option (AX × St)) -> St -> Option (AX × St)
 | 0, _, _ => none
 | n + 1, f, σ => match f { σ with fr := tidy 0 σ.fr } with
  | some (.normal, σ') => loopN n f σ'
  | r => r
def runC (P : Program) (N : Nat) (call : CallF) (lf : Nat) : Code -> St -> Option (AX × St)
 | .skip, σ => some (.normal, σ)
 | .region _ ops draw, σ => if draw then
   if P.follows .mixedOrders && regOk ops (masks ops.toList []) (orderOf ops) [] && earlyOk P N ops then runReg P N call ops (masks ops.toList []) (orderOf ops) [] [] σ else none
  else runOps P N call ops ops.toList σ
 | .seq a b, σ => match runC P N call lf a σ with
  | some (.normal, σ') => runC P N call lf b σ'
  | r => r
 | .cond c a b, σ => match ev σ.fr c with
  | .bool t => if t then runC P N call lf a σ else runC P N call lf b σ
  | _ => none
 | .block id c, σ => match runC P N call lf c σ with
  | some (.exit i, σ') => some (if i = id then .normal else .exit i, σ')
  | r => r
 | .loop c, σ => loopN lf (runC P N call lf c) σ
 | .scope c, σ => runC P N call lf c σ
 | .label _, σ => some (.normal, σ)
 | .exit id, σ => some (.exit id, σ)
 | .ret, σ => some (.ret, σ)
 | .rangeFunc g ps asg body, σ => match calleeOf (ev σ.fr g) with
  | some (k, first, cap) => if funcOk P k then
    match call (.f k) (first ++ [.yf (σ.nx + 1)] ++ cap) ((σ.H.set σ.nx .dfs).set (σ.nx + 1) (.lp .ready none σ.fr N ps.toList asg body)) (σ.nx + 2) with
    | some (.ret _, H', nx') => match H'.get (σ.nx + 1) with
     | some (.lp st pend _ _ _ _ _) => if st = .busy then none else match pend with
      | none => some (.normal, ⟨σ.fr, H'.del (σ.nx + 1), nx', .mark σ.nx :: σ.df⟩)
      | some .ret => some (.ret, ⟨σ.fr, H'.del (σ.nx + 1), nx', .mark σ.nx :: σ.df⟩)
      | some (.exit id) => some (.exit id, ⟨σ.fr, H'.del (σ.nx + 1), nx', .mark σ.nx :: σ.df⟩)
      | _ => none
     | _ => none
    | some (.panic v, H', nx') => some (.panic v, ⟨σ.fr, H', nx', .mark σ.nx :: σ.df⟩)
    | none => none
   else none
  | none => none
 | _, _ => none
section
variable {P : Program} {N n0 : Nat} {call : CallF} {ops : Array Oper}
def afterQ (Q : AX -> St -> Prop) : Option Code -> St -> Prop
 | none, σ => Q .normal σ
 | some .ret, σ => Q .ret σ
 | some (.exit id), σ => Q (.exit id) σ
 | _, _ => False
theorem swp_range {Q : AX -> St -> Prop} {σ : St} {g : Operand} {ps : Array Tmp} {asg body : Code} {k : FuncId} {first cap : List AV} (hg : calleeOf (ev σ.fr g) = some (k, first, cap)) (hok : funcOk P k = true)
  (h : SCall P k (first ++ [.yf (σ.nx + 1)] ++ cap) ((σ.H.set σ.nx .dfs).set (σ.nx + 1) (.lp .ready none σ.fr N ps.toList asg body)) (σ.nx + 2) fun x H' nx' => match x with
   | .ret _ => ∃ st pend F M qs c1 c2, H'.get (σ.nx + 1) = some (.lp st pend F M qs c1 c2) /\ st ≠ .busy /\ afterQ Q pend ⟨σ.fr, H'.del (σ.nx + 1), nx', .mark σ.nx :: σ.df⟩
   | .panic v => Q (.panic v) ⟨σ.fr, H', nx', .mark σ.nx :: σ.df⟩) : SWp P N n0 (.rangeFunc g ps asg body) Q σ := by
 intro ro base w0 Z φ a w hro hs
 have hro : ro = none := by
  rcases hro with h | h
  ·exact h
  ·cases h
 subst hro
 refine wpIn_rangeFunc fun fn _ => ?_
 have hsz1 : (w.alloc (.deferred (some []))).heap.size = w.heap.size + 1 := by show (w.heap.push _).size = _; simp
 have hH1 := hs.heap.alloc (b := σ.nx) (Nat.le_refl _) (o := .deferred (some [])) (x := .dfs) (l := ⟨w.heap.size, 0, 1, 0⟩) rfl (heap_new _ _)
 generalize hw1 : w.alloc (.deferred (some [])) = w1 at hH1 hsz1
 have hl1 : PLe φ (φ.set σ.nx ⟨w.heap.size, 0, 1, 0⟩) := PMap.le_set (hs.heap.fresh (Nat.le_refl _))
 generalize hφ1 : φ.set σ.nx ⟨w.heap.size, 0, 1, 0⟩ = φ1 at hH1 hl1
 have hb1 : φ1 σ.nx = some ⟨w.heap.size, 0, 1, 0⟩ := by rw [<- hφ1]; exact PMap.set_self _ _ _
 have hl2 : PLe φ1 (φ1.set (σ.nx + 1) ⟨w.heap.size + 1, 0, 1, 0⟩) := PMap.le_set (hH1.fresh (Nat.le_refl _))
 have hH2 := hH1.alloc (b := σ.nx + 1) (Nat.le_refl _) (o := .loop { state := .ready, pending := none, fn, tmps := a.tmps, params := ps, assign := asg, body, defers := w.heap.size }) (x := .lp .ready none σ.fr N ps.toList asg body) (l := ⟨w.heap.size + 1, 0, 1, 0⟩) hsz1.symm
  ⟨_, by rw [show (⟨w.heap.size + 1, 0, 1, 0⟩ : Loc).B = w1.heap.size from hsz1.symm]; exact heap_new _ _, rfl, rfl, hs.size, by simp, rfl, rfl, (hs.fr.mono (ZLe.refl _) hl1).mono (ZLe.refl _) hl2⟩
 generalize hφ2 : φ1.set (σ.nx + 1) ⟨w.heap.size + 1, 0, 1, 0⟩ = φ2 at hH2 hl2
 have hb2 : φ2 (σ.nx + 1) = some ⟨w.heap.size + 1, 0, 1, 0⟩ := by rw [<- hφ2]; exact PMap.set_self _ _ _
 have hle := hl1.trans hl2
 obtain ⟨us, ws, hu, h1, h2⟩ := callee_fn hg (rep_ev hs.heap.gl hs.fr g)
 have hen : (Instr.enterLoop fn a.tmps ps asg body none).run P w = .ok (w.heap.size + 1, [{ target := .collected w.heap.size, args := #[] }]) (w1.alloc (.loop { state := .ready, pending := none, fn, tmps := a.tmps, params := ps, assign := asg, body, defers := w.heap.size })) := by
  rw [<- hw1]; exact run_enterLoop_outer fn a.tmps ps asg body
 generalize hw2 : w1.alloc (.loop { state := .ready, pending := none, fn, tmps := a.tmps, params := ps, assign := asg, body, defers := w.heap.size }) = w2 at hH2 hen
 have hyf : Reps Z φ2 [.yf (σ.nx + 1)] #[.func (.yield (w.heap.size + 1)) #[] #[]] := ⟨rfl, fun i v u hv hu => by
  cases i with
  | zero => simp at hv hu; subst hv hu; exact .yf hb2
  | succ i => simp at hv⟩
 refine ⟨w.heap.size + 1, [{ target := .collected w.heap.size, args := #[] }], w2, ⟨.fn (.func k) ws, us ++ #[Value.func (Fn.yield (w.heap.size + 1)) #[] #[]]⟩, w2, k, us ++ #[Value.func (Fn.yield (w.heap.size + 1)) #[] #[]] ++ ws, w2, hen, ?_, fun _ _ => trivial, (show Sem.run P (callFunc k (us ++ #[Value.func (Fn.yield (w.heap.size + 1)) #[] #[]] ++ ws)) w2 = _ from run_callFunc hok (us ++ #[Value.func (Fn.yield (w.heap.size + 1)) #[] #[]] ++ ws) w2), fun h => absurd (wf_depth none h) (by omega), ?_⟩
 ·have hc : #[Operand.const (Value.func (.yield (w.heap.size + 1)) #[] #[])].map a.eval = #[Value.func (.yield (w.heap.size + 1)) #[] #[]] := by simp [Act.eval]
  simp only [rangeCall, resolve, Deferred.ofValue, hu, hc]; rfl
 refine callsIn_wf (Calls.mono (h base w0 Z φ2 w2 _ hH2 (reps_append (reps_append (h1.mono (ZLe.refl _) hle) hyf) (h2.mono (ZLe.refl _) hle))) fun e w' ⟨Z', φ', x, H', nx', g1, g2, g3, g4, g5⟩ => ?_)
 have hdf : DfRel P w0.world.heap.size Z' φ' (.mark σ.nx :: σ.df) ([{ target := .collected w.heap.size, args := #[] }] ++ a.defers) :=
  ⟨.mark (g2 _ _ (hl2 _ _ hb1)) rfl hs.heap.below.size (hs.df.m.mono g1 (hle.trans g2)), List.Pairwise.cons (fun d' hd' B hB hB' => by
   have := hs.df.m.lt hs.heap d' hd' B hB'
   injection hB with hB
   omega) hs.df.ap⟩
 have hfr := hs.fr.mono g1 (hle.trans g2)
 cases x with
 | ret v =>
  cases e <;> try exact g3.elim
  obtain ⟨st, pend, F, M, qs, c1, c2, hget, hst, haf⟩ := g5
  have hloc := g2 _ _ hb2
  obtain ⟨hz, r, hr, e1, e2, _⟩ := g4.ownAt hget hloc
  have hH' := g4.drop hget hloc (.loop { r with state := .exhausted }) (g4.flt _ _ hloc)
  refine ⟨pend, w'.putObj (w.heap.size + 1) (.loop { r with state := .exhausted }), by rw [<- e2]; exact run_endLoop hr (by rw [e1]; exact hst), ?_⟩
  have hS : SRel P base w0 Z' φ' N ⟨σ.fr, H'.del (σ.nx + 1), nx', .mark σ.nx :: σ.df⟩ { a with defers := [{ target := .collected w.heap.size, args := #[] }] ++ a.defers } (w'.putObj (w.heap.size + 1) (.loop { r with state := .exhausted })) := ⟨hfr, hs.size, hdf, hH'⟩
  cases pend with
  | none => exact ⟨Z', φ', .normal, _, g1, (hle.trans g2).to0, trivial, hS, haf⟩
  | some c =>
   cases c <;> try exact haf.elim
   ·exact wpIn_exit ⟨Z', φ', .exit _, _, g1, (hle.trans g2).to0, rfl, hS, haf⟩
   ·exact wpIn_ret ⟨Z', φ', .ret, _, g1, (hle.trans g2).to0, trivial, hS, haf⟩
 | panic v =>
  cases e <;> try exact g3.elim
  exact ⟨Z', φ', .panic v, ⟨σ.fr, H', nx', .mark σ.nx :: σ.df⟩, g1, (hle.trans g2).to0, g3, ⟨hfr, hs.size, hdf, g4⟩, g5⟩
end
end Go.Lom

/- Calls, evaluated, with deferred calls and recover: sound. -/
namespace Go.Lom
open Go.RowKit
def isRecover : Op -> Bool
 | .call { callee := .builtin .recover, .. } => true
 | _ => false
def runPlain (P : Program) (o : Oper) (F : Fr) (H : Heap) (nx : Nat) : Option (AE × Heap × Nat) :=
 match o.op with
 | .panic x => match ev F x with
  | .iface t v => some (.panic (.iface t v), H, nx)
  | _ => none
 | op => match aq P op F H with
  | some r => some (.ret r, H, nx)
  | none => (ae P op F H nx).map fun (r, H', nx') => (.ret r, H', nx')
def runOpsS (P : Program) (N : Nat) (ops : Array Oper) : List Oper -> AMode -> St -> Option (AX × AMode × St)
 | [], m, σ => some (.normal, m, σ)
 | o :: rest, m, σ => if dstOk N o then
  match wantedA ops σ.fr o with
  | some true => if isRecover o.op then
    match m with
    | .panic v => runOpsS P N ops rest (.recd v) { σ with fr := σ.fr.put o.dst v }
    | m => runOpsS P N ops rest m { σ with fr := σ.fr.put o.dst .nili }
   else match runPlain P o σ.fr σ.H σ.nx with
    | some (.ret r, H, nx) => runOpsS P N ops rest m ⟨σ.fr.put o.dst r, H, nx, σ.df⟩
    | some (.panic v, H, nx) => some (.panic v, m, ⟨σ.fr, H, nx, σ.df⟩)
    | none => none
  | some false => runOpsS P N ops rest m { σ with fr := σ.fr.put o.dst skipV }
  | none => none
  else none
def runCS (P : Program) (N : Nat) (call : CallF) (lf : Nat) : Code -> AMode -> St -> Option (AX × AMode × St)
 | .region id ops false, m, σ => if ops.any fun o => isRecover o.op then runOpsS P N ops ops.toList m σ else (runC P N call lf (.region id ops false) σ).map fun (x, τ) => (x, m, τ)
 | .seq a b, m, σ => match runCS P N call lf a m σ with
  | some (.normal, m', σ') => runCS P N call lf b m' σ'
  | r => r
 | .cond c a b, m, σ => match ev σ.fr c with
  | .bool t => if t then runCS P N call lf a m σ else runCS P N call lf b m σ
  | _ => none
 | c, m, σ => (runC P N call lf c σ).map fun (x, τ) => (x, m, τ)
def LiftS (P : Program) (base : Nat -> Prop) (w0 : Start) (N : Nat) (Z : ZMap) (φ : PMap) (c0 : Frame) (cs : List Frame) (Q : AX -> AMode -> St -> Prop) : Exit -> Act -> List Frame -> World -> Prop := fun e a cs' w =>
 ∃ Z' φ' x m σ u, ZLe Z Z' /\ PLe φ φ' /\ XRel Z' φ' x e /\ SRel P base w0 Z' φ' N σ a w /\ cs' = { c0 with mode := u } :: cs /\ MRel Z' φ' m u /\ Q x m σ
theorem LiftS.mono {P : Program} {base : Nat -> Prop} {w0 : Start} {N : Nat} {Z Z' : ZMap} {φ φ' : PMap} {c0 : Frame} {cs : List Frame} {u0 : FrameMode} {Q : AX -> AMode -> St -> Prop} (hZ : ZLe Z Z') (hφ : PLe φ φ') {e : Exit} {a : Act} {cs' : List Frame} {w : World}
  (h : LiftS P base w0 N Z' φ' { c0 with mode := u0 } cs Q e a cs' w) : LiftS P base w0 N Z φ c0 cs Q e a cs' w :=
 let ⟨Z2, φ2, x, m, σ, u, h1, h2, h3, h4, h5, h6, h7⟩ := h
 ⟨Z2, φ2, x, m, σ, u, hZ.trans h1, hφ.trans h2, h3, h4, h5, h6, h7⟩
def SWpS (P : Program) (N : Nat) (c : Code) (Q : AX -> AMode -> St -> Prop) (m : AMode) (σ : St) : Prop :=
 ∀ base w0 Z φ a w c0 cs, SRel P base w0 Z φ N σ a w -> MRel Z φ m c0.mode -> c.wpSIn (Wf none) 0 P (LiftS P base w0 N Z φ c0 cs Q) a (c0 :: cs) w
section
variable {P : Program} {N n0 : Nat} {call : CallF}
theorem wpS_mono {c : Code} {Q Q' : Exit -> Act -> List Frame -> World -> Prop} {a : Act} {cs : List Frame} {w : World} (h : c.wpSIn (Wf none) 0 P Q a cs w) (hq : ∀ e a cs w, Q e a cs w -> Q' e a cs w) : c.wpSIn (Wf none) 0 P Q' a cs w :=
 fun b k hb hr hF hm => let ⟨e, a', cs', w', l, q, r⟩ := h b k hb hr hF hm; ⟨e, a', cs', w', l, hq _ _ _ _ q, r⟩
theorem mrel_mono {Z Z' : ZMap} {φ φ' : PMap} (hZ : ZLe Z Z') (hφ : PLe φ φ') {m : AMode} {u : FrameMode} (h : MRel Z φ m u) : MRel Z' φ' m u := by
 cases m <;> cases u <;> first | exact h.elim | exact trivial | (obtain ⟨q, h1, h2⟩ := h; exact ⟨q, h1, h2.mono hZ hφ⟩)
theorem recoverD_some {c0 : Frame} {cs : List Frame} {Z : ZMap} {φ : PMap} {v : AV} (h : MRel Z φ (.panic v) c0.mode) : ∃ q, Rep Z φ v q /\ recoverD (c0 :: cs) = some (q, { c0 with mode := .panicking [{ v := q, recovered := true }] } :: cs) := by
 generalize hu : c0.mode = u at h
 cases u <;> try exact h.elim
 obtain ⟨q, rfl, hq⟩ := h
 refine ⟨q, hq, ?_⟩
 simp [recoverD, hu]
theorem recoverD_none {c0 : Frame} {cs : List Frame} {Z : ZMap} {φ : PMap} {m : AMode} (h : MRel Z φ m c0.mode) (hn : ∀ v, m ≠ .panic v) : recoverD (c0 :: cs) = none := by
 generalize hu : c0.mode = u at h
 cases m with
 | ret => cases u <;> first | exact h.elim | simp [recoverD, hu]
 | panic v => exact absurd rfl (hn v)
 | recd v =>
  cases u <;> try exact h.elim
  obtain ⟨q, rfl, hq⟩ := h
  simp [recoverD, hu]
theorem wpOpsS_mono {ops : Array Oper} {R R' : Exit -> Act -> List Frame -> World -> Prop} (hQ : ∀ e a cs w, R e a cs w -> R' e a cs w) : ∀ {l : List Nat} {a : Act} {cs : List Frame} {w : World}, wpOpsSIn (Wf none) 0 P ops R l a cs w -> wpOpsSIn (Wf none) 0 P ops R' l a cs w
 | [], a, cs, w, h => hQ _ _ _ _ h
 | i :: l, a, cs, w, h => by
  simp only [wpOpsSIn] at h ⊢
  split
  ·rename_i ho; rw [ho] at h; exact wpOpsS_mono hQ h
  ·rename_i o ho
   rw [ho] at h
   simp only at h
   refine ⟨h.1, ?_⟩
   have h := h.2
   split
   ·rename_i hw
    rw [if_pos hw] at h
    generalize (execOp a.eval o).run P w = r at h ⊢
    cases r with
    | ok n w' =>
     cases n <;> try exact h.elim
     ·exact wpOpsS_mono hQ h
     ·exact wpOpsS_mono hQ h
     ·simp only at h ⊢
      split
      ·rename_i hr; rw [hr] at h; exact wpOpsS_mono hQ h
      ·rename_i hr; rw [hr] at h; exact wpOpsS_mono hQ h
    | halt x w' => cases x <;> first | exact h.elim | exact hQ _ _ _ _ h
   ·rename_i hw
    rw [if_neg hw] at h
    exact wpOpsS_mono hQ h
theorem runOpsS_sound {ops : Array Oper} {x : AX} {m' : AMode} {τ : St} : ∀ (l : List Oper) (k : Nat), (∀ j, l[j]? = ops[k + j]?) -> ∀ (m : AMode) (σ : St), runOpsS P N ops l m σ = some (x, m', τ) ->
  ∀ base w0 Z φ a w c0 cs, SRel P base w0 Z φ N σ a w -> MRel Z φ m c0.mode ->
   wpOpsSIn (Wf none) 0 P ops (LiftS P base w0 N Z φ c0 cs fun y n ρ => y = x /\ n = m' /\ ρ = τ) (List.range' k l.length) a (c0 :: cs) w
 | [], k, _, m, σ, h, base, w0, Z, φ, a, w, c0, cs, hs, hM => by
  simp only [runOpsS, Option.some.injEq, Prod.mk.injEq] at h
  exact ⟨Z, φ, .normal, m, σ, c0.mode, ZLe.refl _, PLe.refl _, trivial, hs, rfl, hM, h⟩
 | o :: l, k, hl, m, σ, h, base, w0, Z, φ, a, w, c0, cs, hs, hM => by
  have h0 : ops[k]? = some o := by simpa using (hl 0).symm
  have ih := runOpsS_sound (x := x) (m' := m') (τ := τ) l (k + 1) (fun j => by have := hl (j + 1); simpa [Nat.add_assoc, Nat.add_comm 1 j] using this)
  simp only [List.length_cons, List.range'_succ, wpOpsSIn, h0]
  refine ⟨fun _ _ => trivial, ?_⟩
  simp only [runOpsS] at h
  split at h
  case isFalse => cases h
  rename_i hd
  have hlt := dstOk_lt hd hs.size
  have hsk : ∀ r v, Rep Z φ r v -> SRel P base w0 Z φ N { σ with fr := σ.fr.put o.dst r } (a.put o.dst v) w := fun r v hr => ⟨hs.fr.put hlt hr, by rw [put_size]; exact hs.size, by rw [put_defs]; exact hs.df, hs.heap⟩
  split at h
  ·rename_i hw
   have hwant : Region.wanted o (yielded ops a.tmps) = true := by
    unfold wantedA at hw
    cases hg : o.guard with
    | none => simp [Region.wanted, hg]
    | some p =>
     obtain ⟨j, want⟩ := p
     rw [hg] at hw
     simp only [Option.map_eq_some_iff] at hw
     obtain ⟨b, hb, hbw⟩ := hw
     have hy := guard_yielded hs.fr hs.size hb
     simp at hbw
     simp [Region.wanted, hg, hy, hbw]
   rw [if_pos hwant]
   split at h
   ·rename_i hrec
    have hrun : (execOp a.eval o).run P w = .ok .recover w := by
     obtain ⟨dst, op, ty, pos, after, guard⟩ := o
     cases op <;> simp [isRecover] at hrec
     rename_i cl
     obtain ⟨callee, args, ats⟩ := cl
     cases callee with
     | value f => simp [isRecover] at hrec
     | invoke _ _ => simp [isRecover] at hrec
     | builtin b =>
      cases b <;> simp [isRecover] at hrec
      exact run_builtin fun _ => rfl
    rw [hrun]
    split at h
    ·rename_i v
     obtain ⟨q, hq, hrd⟩ := recoverD_some (cs := cs) hM
     simp only [hrd]
     have := ih (.recd v) _ h base w0 Z φ _ w { c0 with mode := .panicking [{ v := q, recovered := true }] } cs (hsk v q hq) ⟨q, rfl, hq⟩
     exact wpOpsS_mono (fun e a cs' w hl => LiftS.mono (ZLe.refl _) (PLe.refl _) hl) this
    ·rename_i hnp
     simp only [recoverD_none (cs := cs) hM (fun v e => hnp v e)]
     exact ih m _ h base w0 Z φ _ w c0 cs (hsk .nili .nilIface .nili) hM
   ·rename_i hnrec
    have done : ∀ r H' nx', OutOk base w0 Z φ r H' nx' ((execOp a.eval o).run P w) -> runOpsS P N ops l m ⟨σ.fr.put o.dst r, H', nx', σ.df⟩ = some (x, m', τ) -> (match (execOp a.eval o).run P w with
      | .ok .recover w' => match recoverD (c0 :: cs) with
       | some (v, cs') => wpOpsSIn (Wf none) 0 P ops (LiftS P base w0 N Z φ c0 cs fun y n ρ => y = x /\ n = m' /\ ρ = τ) (List.range' (k + 1) l.length) (a.put o.dst v) cs' w'
       | none => wpOpsSIn (Wf none) 0 P ops (LiftS P base w0 N Z φ c0 cs fun y n ρ => y = x /\ n = m' /\ ρ = τ) (List.range' (k + 1) l.length) (a.put o.dst .nilIface) (c0 :: cs) w'
      | .ok (.value v) w' => wpOpsSIn (Wf none) 0 P ops (LiftS P base w0 N Z φ c0 cs fun y n ρ => y = x /\ n = m' /\ ρ = τ) (List.range' (k + 1) l.length) (a.put o.dst v) (c0 :: cs) w'
      | .ok .skip w' => wpOpsSIn (Wf none) 0 P ops (LiftS P base w0 N Z φ c0 cs fun y n ρ => y = x /\ n = m' /\ ρ = τ) (List.range' (k + 1) l.length) (a.put o.dst Go.undef) (c0 :: cs) w'
      | .halt (.panic v) w' => LiftS P base w0 N Z φ c0 cs (fun y n ρ => y = x /\ n = m' /\ ρ = τ) (.panic [{ v, recovered := false }]) a (c0 :: cs) w'
      | _ => False) := by
     intro r H' nx' ho hk
     obtain ⟨n, w', Z', φ', hv, hn, hZ, hφ, hh⟩ := ho
     rw [hv]
     have nxt : ∀ v, Rep Z' φ' r v -> wpOpsSIn (Wf none) 0 P ops (LiftS P base w0 N Z φ c0 cs fun y n ρ => y = x /\ n = m' /\ ρ = τ) (List.range' (k + 1) l.length) (a.put o.dst v) (c0 :: cs) w' := fun v hrep => by
      have := ih m _ hk base w0 Z' φ' (a.put o.dst v) w' c0 cs ⟨FrRel.put (hs.fr.mono hZ hφ) hlt hrep, by rw [put_size]; exact hs.size, by rw [put_defs]; exact hs.df.mono hZ hφ, hh⟩ (mrel_mono hZ hφ hM)
      exact wpOpsS_mono (fun e a cs' w hl => LiftS.mono (u0 := c0.mode) hZ hφ hl) this
     rcases hn with ⟨v, rfl, hrep⟩ | ⟨rfl, rfl⟩
     ·exact nxt v hrep
     ·exact nxt Go.undef (.undef _)
    have ret : ∀ r H' nx', runPlain P o σ.fr σ.H σ.nx = some (.ret r, H', nx') -> OutOk base w0 Z φ r H' nx' ((execOp a.eval o).run P w) := by
     intro r H' nx' hr
     unfold runPlain at hr
     split at hr
     ·split at hr <;> simp at hr
     ·split at hr
      ·rename_i q hq
       simp only [Option.some.injEq, Prod.mk.injEq, AE.ret.injEq] at hr
       obtain ⟨rfl, rfl, rfl⟩ := hr
       obtain ⟨v, hv, hrep⟩ := sound_q hs.heap hs.fr hq
       exact ⟨.value v, w, Z, φ, hv, .inl ⟨v, rfl, hrep⟩, ZLe.refl _, PLe.refl _, hs.heap⟩
      ·simp only [Option.map_eq_some_iff] at hr
       obtain ⟨⟨q, G, n2⟩, hae, hr⟩ := hr
       simp only [Prod.mk.injEq, AE.ret.injEq] at hr
       obtain ⟨rfl, rfl, rfl⟩ := hr
       exact sound_e hs.heap hs.fr hae
    split at h
    ·rename_i r H nx hr
     exact done r H nx (ret _ _ _ hr) h
    ·rename_i v H nx hr
     simp only [Option.some.injEq, Prod.mk.injEq] at h
     unfold runPlain at hr
     split at hr
     ·rename_i y hop
      split at hr
      ·rename_i t v' hx
       simp only [Option.some.injEq, Prod.mk.injEq, AE.panic.injEq] at hr
       obtain ⟨rfl, rfl, rfl⟩ := hr
       have hrep := rep_ev hs.heap.gl hs.fr y
       rw [hx] at hrep
       generalize hu : a.eval y = u at hrep
       cases hrep with
       | iface hv =>
       rename_i uv
       have : (execOp a.eval o).run P w = .halt (.panic (.iface t uv)) w := by
        obtain ⟨dst, op, ty, pos, after, guard⟩ := o
        simp only at hop; subst hop
        simp only [execOp, hu, Instr.panic]; rfl
       rw [this]
       exact ⟨Z, φ, .panic (.iface t v'), m, ⟨σ.fr, σ.H, σ.nx, σ.df⟩, c0.mode, ZLe.refl _, PLe.refl _, ⟨_, rfl, .iface hv⟩, hs, rfl, hM, h⟩
      ·cases hr
     ·split at hr
      ·simp at hr
      ·simp only [Option.map_eq_some_iff] at hr
       obtain ⟨⟨q, G, n2⟩, hae, hr⟩ := hr
       simp at hr
    ·cases h
  ·rename_i hw
   have hwant : ¬ Region.wanted o (yielded ops a.tmps) = true := by
    unfold wantedA at hw
    cases hg : o.guard with
    | none => rw [hg] at hw; cases hw
    | some p =>
     obtain ⟨j, want⟩ := p
     rw [hg] at hw
     simp only [Option.map_eq_some_iff] at hw
     obtain ⟨b, hb, hbw⟩ := hw
     have hy := guard_yielded hs.fr hs.size hb
     simp at hbw
     simp [Region.wanted, hg, hy, hbw]
   rw [if_neg hwant]
   exact ih m _ h base w0 Z φ _ w c0 cs (hsk skipV _ (rep_skip _ _)) hM
  ·cases h
theorem swpS_of {c : Code} {Q : AX -> St -> Prop} {m : AMode} {σ : St} (h : SWp P N σ.nx c Q σ) : SWpS P N c (fun x n τ => Q x τ /\ n = m) m σ := by
 intro base w0 Z φ a w c0 cs hs hM
 refine wpSIn_of_wpIn (F := Wf none) rfl (wpIn_mono (h none base w0 Z φ a w InRo.none hs) fun e a w hl => ?_)
 obtain ⟨Z', φ', x, σ', h1, h20, h3, h4, h5⟩ := hl
 have h2 : PLe φ φ' := fun b x hb => h20 b x (hs.heap.fnx b x hb) hb
 exact ⟨Z', φ', x, m, σ', c0.mode, h1, h2, h3, h4, rfl, mrel_mono h1 h2 hM, h5, rfl⟩
end
def params (F : Fr) : List Nat -> List AV -> Fr
 | t :: ps, v :: vs => params ((t, v) :: F) ps vs
 | _, _ => F
def roundOut (H : Heap) (b nx : Nat) : AX -> Option (AE × Heap × Nat)
 | x => match H.get b with
  | some (.lp _ _ F N ps asg body) => match x with
   | .normal => some (.ret (.bool true), H.set b (.lp .ready none F N ps asg body), nx)
   | .ret => some (.ret (.bool false), H.set b (.lp .done (some .ret) F N ps asg body), nx)
   | .exit id => some (.ret (.bool false), H.set b (.lp .done (some (.exit id)) F N ps asg body), nx)
   | .panic _ => none
  | _ => none
section
variable {P : Program} {base : Nat -> Prop} {w0 : Start} {Z : ZMap} {φ : PMap} {H : Heap} {nx : Nat} {w : World}
theorem foldl_params_size : ∀ (l : List (Tmp × Value)) (tmps : Array Value), (l.foldl (fun tmps (t, a) => tmps.setIfInBounds t a) tmps).size = tmps.size
 | [], _ => rfl
 | (t, a) :: l, tmps => by rw [List.foldl_cons, foldl_params_size l]; simp
theorem params_rel : ∀ (ps : List Nat) (vs : List AV) (us : List Value) (F : Fr) (tmps : Array Value), vs.length = ps.length -> us.length = ps.length -> (∀ (i : Nat) (v : AV) (u : Value), vs[i]? = some v -> us[i]? = some u -> Rep Z φ v u) ->
  (∀ p ∈ ps, p < tmps.size) -> FrRel Z φ F tmps -> FrRel Z φ (params F ps vs) ((ps.zip us).foldl (fun tmps (t, a) => tmps.setIfInBounds t a) tmps)
 | [], [], [], F, tmps, _, _, _, _, h => h
 | [], _ :: _, _, _, _, h, _, _, _, _ => by simp at h
 | [], [], _ :: _, _, _, _, h, _, _, _ => by simp at h
 | _ :: _, [], _, _, _, h, _, _, _, _ => by simp at h
 | _ :: _, _ :: _, [], _, _, _, h, _, _, _ => by simp at h
 | t :: ps, v :: vs, u :: us, F, tmps, h1, h2, hr, hlt, h => by
  simp only [params, List.zip_cons_cons, List.foldl_cons]
  refine params_rel ps vs us _ _ (by simpa using h1) (by simpa using h2) (fun i v u a b => hr (i + 1) v u (by simpa using a) (by simpa using b)) (fun p hp => by simpa using hlt p (List.mem_cons_of_mem _ hp)) ?_
  have := FrRel.put (a := { tmps := tmps, defers := [] }) (dst := some t) (v := u) h (fun d hd => by injection hd with hd; subst hd; exact hlt t (List.mem_cons_self ..)) (hr 0 v u rfl rfl)
  simpa [Fr.put, Act.put] using this
theorem HRel.turn (h : HRel base w0 Z φ H nx w) {b : Nat} {st st' : LoopState} {pend pend' : Option Code} {F : Fr} {N : Nat} {ps : List Nat} {asg body : Code} {l : Loc} (hb : H.get b = some (.lp st pend F N ps asg body)) (hf : φ b = some l) :
  ∃ r, w.heap[l.B]? = some (.loop r) /\ r.state = st /\ r.pending = pend /\ r.tmps.size = N /\ r.params = ps.toArray /\ r.assign = asg /\ r.body = body /\ FrRel Z φ F r.tmps /\
   HRel base w0 Z φ (H.set b (.lp st' pend' F N ps asg body)) nx (w.putObj l.B (.loop { r with state := st', pending := pend' })) := by
 obtain ⟨hz, r, hr, e1, e2, e3, e4, e5, e6, e7⟩ := h.ownAt hb hf
 refine ⟨r, hr, e1, e2, e3, e4, e5, e6, e7, h.upd hb hf rfl rfl rfl (by rw [putObj_size]; exact Nat.le_refl _) (fun k hk _ => putObj_other _ hk) ⟨{ r with state := st', pending := pend' }, World.putObj_heap_same (h.flt _ _ hf), rfl, rfl, e3, e4, e5, e6, e7⟩⟩
end
def orL (f : AV -> Nat) : List AV -> Nat
 | [] => 0
 | v :: l => Nat.lor (f v) (orL f l)
def refsV : Nat -> AV -> Nat
 | 0, _ => 0
 | n + 1, v => match v with
  | .ptr b _ _ => Nat.shiftLeft 1 b
  | .sl b _ _ _ _ => Nat.shiftLeft 1 b
  | .mp b => Nat.shiftLeft 1 b
  | .it b => Nat.shiftLeft 1 b
  | .yf b => Nat.shiftLeft 1 b
  | .rp e _ => orL (refsV n) e
  | .fn _ xs ys => Nat.lor (orL (refsV n) xs) (orL (refsV n) ys)
  | .iface _ v => refsV n v
  | .agg cs => orL (refsV n) cs
  | .tup vs => orL (refsV n) vs
  | .rs xs => orLL (refsV n) xs
  | _ => 0
where
 orLL (f : AV -> Nat) : List (List AV) -> Nat
  | [] => 0
  | e :: l => Nat.lor (orL f e) (orLL f l)
def refsE : List (List AV) -> Nat
 | [] => 0
 | e :: l => Nat.lor (orL (refsV 5) e) (refsE l)
def refsM : List (AV × AV) -> Nat
 | [] => 0
 | p :: l => Nat.lor (Nat.lor (refsV 5 p.1) (refsV 5 p.2)) (refsM l)
def refsF : Fr -> Nat
 | [] => 0
 | p :: l => Nat.lor (refsV 5 p.2) (refsF l)
def refsB : Blk -> Nat
 | .row _ es => refsE es
 | .lst _ _ => 0
 | .mp es => refsM es
 | .tm _ _ _ => 0
 | .tx _ _ _ _ v _ => refsV 5 v
 | .it _ _ _ _ => 0
 | .lp _ _ F _ _ _ _ => refsF F
 | .dfs => 0
def bitB (m b : Nat) : Bool := Nat.beq (Nat.land (Nat.shiftRight m b) 1) 1
def refsOld (nx : Nat) : Heap -> Nat
 | [] => 0
 | p :: H => match Nat.ble nx p.1 with
  | true => refsOld nx H
  | false => Nat.lor (refsB p.2) (refsOld nx H)
def refsNew (nx m : Nat) : Heap -> Nat
 | [] => m
 | p :: H => match Nat.ble nx p.1 with
  | true => match bitB m p.1 with
   | true => refsNew nx (Nat.lor m (refsB p.2)) H
   | false => refsNew nx m H
  | false => m
def closeR (nx : Nat) (H : Heap) : Nat -> Nat -> Nat
 | 0, m => m
 | n + 1, m => let m' := refsNew nx m H; match Nat.beq m m' with
  | true => m
  | false => closeR nx H n m'
def keepF (nx m b : Nat) : Bool := match Nat.ble nx b with
 | true => bitB m b
 | false => true
def keepB (nx m : Nat) : Heap -> Heap
 | [] => []
 | p :: H => match keepF nx m p.1 with
  | true => p :: keepB nx m H
  | false => keepB nx m H
def gc (nx : Nat) (v : AV) (H : Heap) (nx' : Nat) : Heap := match Nat.beq nx nx' with
 | true => H
 | false => keepB nx (closeR nx H 8 (Nat.lor (refsV 5 v) (refsOld nx H))) H
theorem keepB_get (nx m : Nat) : ∀ (H : Heap) (b : Nat), (keepB nx m H).get b = if keepF nx m b = true then H.get b else none
 | [], b => by simp [keepB, Heap.get]
 | (c, x) :: H, b => by
  have ih := keepB_get nx m H b
  unfold keepB
  by_cases hk : keepF nx m c = true
  ·rw [hk]
   simp only [Heap.get, ih]
   by_cases e : b = c
   ·subst e; rw [if_pos rfl, if_pos rfl, if_pos hk]
   ·rw [if_neg e, if_neg e]
  ·simp only [Bool.not_eq_true] at hk
   rw [hk]
   simp only [Heap.get, ih]
   by_cases e : b = c
   ·subst e; rw [hk]; rfl
   ·rw [if_neg e]
theorem gc_sub (nx : Nat) (v : AV) (H : Heap) (nx' : Nat) : Sub (gc nx v H nx') H := by
 unfold gc
 split
 ·exact Sub.refl _
 ·intro b x h
  rw [keepB_get] at h
  split at h
  ·exact h
  ·cases h
def gcOut (nx : Nat) : AE × Heap × Nat -> AE × Heap × Nat
 | (.ret v, H, nx') => (.ret v, gc nx v H nx', nx')
 | r => r
theorem SCall.gc {P : Program} {k : FuncId} {avs : List AV} {H : Heap} {nx : Nat} {r : AE × Heap × Nat} (h : SCall P k avs H nx fun x G m => x = r.1 /\ G = r.2.1 /\ m = r.2.2) :
  SCall P k avs H nx fun x G m => x = (gcOut nx r).1 /\ G = (gcOut nx r).2.1 /\ m = (gcOut nx r).2.2 := by
 obtain ⟨e, G0, m0⟩ := r
 cases e with
 | panic v => exact h
 | ret v =>
  intro base w0 Z φ w us hH hr
  refine (h base w0 Z φ w us hH hr).mono fun e w' ⟨Z', φ', x, H', nx', g1, g2, g3, g4, e1, e2, e3⟩ => ?_
  simp only at e1 e2 e3
  subst e1 e2 e3
  exact ⟨Z', φ', .ret v, _, _, g1, g2, g3, g4.sub (gc_sub nx v H' nx'), rfl, rfl, rfl⟩
structure KEnt where
 k : Nat
 avs : List AV
 H : Heap
 nx : Nat
 out : AE × Heap × Nat
structure KTab where
 t : List Nat
 m : List KEnt
 p : List (Nat × (List AV -> Option AV)) := []
end Go.Lom

/- From the library to a row: what a call that takes read-only arguments answers. -/
namespace Go.Lom
open Go.RowKit Go.WideShapes Go.ChangeShapes
def zAll (w : World) : ZMap := fun B => w.heap[B]?
def noMap : PMap := fun _ => none
theorem globOk_none {Z : ZMap} (h : ∀ g, globVal g = none) : GlobOk Z := fun g e he => by rw [h g] at he; cases he
theorem hrel_start (w : World) (gl : GlobOk (zAll w)) : HRel (· < w.heap.size) ⟨w, zAll w⟩ (zAll w) noMap [] 0 w :=
 ⟨KeptW.refl _ _, fun _ _ h => h, fun _ _ _ => rfl, gl, fun b x h => by simp [noMap] at h, fun b x h => by simp [Heap.get] at h, fun b x h => by simp [noMap] at h, fun b x h => by simp [Heap.get] at h, fun b b' x x' l l' _ h => by simp [Heap.get] at h, fun b x l h => by simp [Heap.get] at h⟩
def saysTrue : AE -> Heap -> Nat -> Prop := fun x _ _ => x = .ret (.bool true)
theorem calls_true {P : Program} {k : FuncId} {avs : List AV} {us : Array Value} {w : World} (h : SCall P k avs [] 0 saysTrue) (hr : Reps (zAll w) noMap avs us) (gl : GlobOk (zAll w) := by exact globOk_none fun _ => rfl) :
  Calls P k us w fun e w' => e = .returned (.bool true) /\ Below w.heap.size w w' := by
 refine (h _ _ _ _ _ _ (hrel_start w gl) hr).mono fun e w' ⟨Z', φ', x, H', nx', _, _, hE, hH, hx⟩ => ?_
 unfold saysTrue at hx
 subst hx
 cases e <;> try exact hE.elim
 cases hE
 exact ⟨rfl, hH.below.below (Nat.le_refl _)⟩
section
variable {H : Type} {enc : TypeId × Value -> H} {P : Program}
theorem post_of_below {f : Func} {s : ChangeSpec} {apart fresh handsOn again : Bool} {W W' : World} {args : Array Value} {v : Value} {ds gs : List (DataW H)} {before pa pv : List MemPlace}
  (hW : DataW.Whole enc P f.params.toList s.vars apart W args.toList ds gs before)
  (hres : ∀ (b : Nat) (sp : Nat -> Bool) (hd : Bool), DataW.TrodAll enc P W' b sp hd f.resultTypes.toList (v.resultList f.resultTypes.size) (s.fn H (ds ++ gs)).results [])
  (hargs : ∀ sp : Nat -> Bool, (∀ p ∈ before, sp p.block = true) -> DataW.TrodAll enc P W' 0 sp true f.params.toList args.toList (s.fn H (ds ++ gs)).args pa)
  (hvars : ∀ sp : Nat -> Bool, (∀ p ∈ before, sp p.block = true) -> DataW.TrodVars enc P W' sp s.vars (s.fn H (ds ++ gs)).vars pv)
  (hps : before = pa ++ pv) (hb : Below W.heap.size W W')
  (hok : ∀ (j : Nat) (t : TypeId) (r : Value), f.resultTypes[j]? = some t -> (v.resultList f.resultTypes.size)[j]? = some r -> Value.okWide P W' .any 0 t r) :
  s.post enc P f apart fresh handsOn again W args v W' := by
 have hlt : ∀ p ∈ before, p.block < W.heap.size := fun p hp => hW.lt p hp
 have hold : ∀ p ∈ before, (fun b => decide (b < W.heap.size)) p.block = true := fun p hp => by simpa using hlt p hp
 refine ⟨ds, gs, before, [], pa, pv, hW, hres _ _ _, hargs _ hold, hvars _ hold, World.keptBut_mono (fun p hp => ⟨hp, ?_⟩) (hb.frame (· ∈ before)), fun _ => ?_⟩
 ·rw [hps, List.mem_append] at hp
  exact Or.inr hp
 ·obtain ⟨_, _, _, _, _, hz, hn⟩ := hW
  refine ⟨hok, _, _, ([] ++ pa) ++ pv, ⟨[] ++ pa, pv, trodAll_append (hargs _ (fun _ _ => rfl)) (hres _ _ _), hvars _ (fun _ _ => rfl), rfl, ?_, ?_⟩, ?_⟩
  ·intro b off hp
   have hin : MemPlace.cell b off ∈ before := by rw [hps]; simpa using hp
   rw [hb.frozen (hlt _ hin)]
   exact hz b off hin
  ·intro ha
   have := hn ha
   rw [hps] at this
   simpa using this
  ·intro p hp _
   rw [hps]
   simpa using hp
end
end Go.Lom
