/- Operations that make or write memory: definitions, and lemmas on blocks. -/
import Derived.Test.YtnjaebjhfilljaaLomJ
set_option linter.unusedSimpArgs false
set_option linter.unusedVariables false
namespace Go.Lom
open Go.RowKit

/-- What follows: the value, the heap, the next free number. -/
abbrev Out := AV × Heap × Nat

def aalloc (P : Program) (t : TypeId) (H : Heap) (nx : Nat) : Option Out := do
  let cs ← zeroCellsOf P t
  some (.ptr nx 0 0, H.set nx (.row cs.length [cs]), nx + 1)
def abox (x : AV) (H : Heap) (nx : Nat) : Option Out := do
  let cs ← cellsOf x
  some (.ptr nx 0 0, H.set nx (.row cs.length [cs]), nx + 1)
def chunk (s : Nat) (n : Nat) (cs : List AV) : List (List AV) := (List.range n).map fun i => (cs.drop (i * s)).take s
def sliceElem (P : Program) (t : TypeId) : Option TypeId :=
  match P.underlying t with
  | some (.slice e) => some e
  | _ => none
def aliteral (P : Program) (t : TypeId) (len : Nat) (parts : List (Nat × AV)) : Option (Nat × List (List AV)) := do
  let e ← sliceElem P t
  let s ← szOf P e
  let z ← zeroCellsOf P e
  if z.length = s ∧ len * s ≤ 16777216 then do
    let cs ← afill (fun i => some (i * s, s)) (List.replicate len z).flatten parts
    some (s, chunk s len cs)
  else none
def abuildSlice (P : Program) (t : TypeId) (len : Nat) (parts : List (Nat × AV)) (H : Heap) (nx : Nat) : Option Out := do
  let (s, es) ← aliteral P t len parts
  some (.sl nx s 0 len (some len), H.set nx (.row s es), nx + 1)
def astore (P : Program) (t : TypeId) (a v : AV) (H : Heap) (nx : Nat) : Option Out :=
  match a with
  | .ptr b i o => do
    let blk ← H.get b
    let (s, es) ← asRow blk
    let e ← es[i]?
    let cs ← cellsOf v
    let n ← szOf P t
    if cs.length = n ∧ o + n ≤ e.length then some (.undef, H.set b (.row s (es.set i (splice e o cs))), nx) else none
  | _ => none
def amakeMap (P : Program) (t : TypeId) (r : Option AV) (H : Heap) (nx : Nat) : Option Out :=
  match r with
  | none => some (.mp nx, H.set nx (.mp []), nx + 1)
  | some v => do
    let _ ← mapT P t
    let _ ← asI v
    some (.mp nx, H.set nx (.mp []), nx + 1)
def bytesOf (P : Program) (t : TypeId) : Option Nat := (P.info? t).map (·.bytes)
def amakeSlice (P : Program) (t : TypeId) (l c : AV) (H : Heap) (nx : Nat) : Option Out := do
  let e ← sliceElem P t
  let s ← szOf P e
  let by_ ← bytesOf P e
  let z ← zeroCellsOf P e
  let l ← asI l
  let c ← asI c
  if z.length = s ∧ 0 ≤ l ∧ l ≤ c ∧ (by_ : Int) * c ≤ 281474976710656 ∧ c ≤ 281474976710656 then
    some (.sl nx s 0 l.toNat (some c.toNat), H.set nx (.row s (List.replicate c.toNat z)), nx + 1)
  else none
/-- Two keys that are the same to the bit. -/
def sameK1 : AV → AV → Bool
  | .bool a, .bool b => a == b
  | .int j a, .int k b => j == k && a == b
  | .str a, .str b => a == b
  | _, _ => false
def sameK : AV → AV → Bool
  | .agg a, .agg b => a.length == b.length && (a.zip b).all fun p => sameK1 p.1 p.2
  | x, y => sameK1 x y
def amapUpdate (P : Program) (t : TypeId) (m k v : AV) (H : Heap) (nx : Nat) : Option Out :=
  match m with
  | .mp b => do
    let (kt, _) ← mapT P t
    let blk ← H.get b
    let es ← asMp blk
    if keyOk P 10000 kt k = false then none else
    let r ← findK P kt k es 0
    match r with
    | some (i, _) => do
      let p ← es[i]?
      if sameK p.1 k then some (.undef, H.set b (.mp (es.set i (k, v))), nx) else none
    | none => some (.undef, H.set b (.mp (es ++ [(k, v)])), nx)
  | _ => none
def asSl : AV → Option (Nat × Nat × Nat × Nat × Option Nat)
  | .sl b s off len cap => some (b, s, off, len, cap)
  | _ => none
def fitsA (P : Program) (e : TypeId) (s : Nat) (n : Nat) : Option Unit := do
  let s' ← szOf P e
  let by_ ← bytesOf P e
  let z ← zeroCellsOf P e
  if s' = s ∧ z.length = s ∧ n * by_ ≤ 140737488355328 ∧ n ≤ maxLen then some () else none
def aappend (P : Program) (t : TypeId) (x y : AV) (H : Heap) (nx : Nat) : Option Out := do
  let e ← sliceElem P t
  let s ← szOf P e
  let news ← elems H y
  if fitsS news s = false then none else
  if news = [] then match x with
    | .nils | .emp | .sl _ _ _ _ _ | .rs _ | .rl _ _ => some (x, H, nx)
    | _ => none
  else match x with
  | .nils | .emp => do
    fitsA P e s news.length
    some (.sl nx s 0 news.length none, H.set nx (.row s news), nx + 1)
  | .sl b s' off len cap => if s' ≠ s then none else do
    let blk ← H.get b
    let (_, es) ← asRow blk
    if es.length < off + len then none else
    match cap with
    | some k =>
      if len + news.length ≤ k then
        if off + len + news.length ≤ es.length then
          some (.sl b s off (len + news.length) (some k), H.set b (.row s (es.take (off + len) ++ news ++ es.drop (off + len + news.length))), nx)
        else none
      else do
        fitsA P e s (len + news.length)
        some (.sl nx s 0 (len + news.length) none, H.set nx (.row s ((es.drop off).take len ++ news)), nx + 1)
    | none => do
      fitsA P e s (len + news.length)
      some (.sl nx s 0 (len + news.length) none, (H.del b).set nx (.row s ((es.drop off).take len ++ news)), nx + 1)
  | _ => none
def aecall (P : Program) (c : Call) (F : Fr) (H : Heap) (nx : Nat) : Option Out :=
  match c.callee with
  | .builtin .append => match c.args.toList, c.argTypes.toList with
    | [x, y], [t, t'] => if t = t' then aappend P t (ev F x) (ev F y) H nx else none
    | _, _ => none
  | _ => none
/-- What an operation that makes or writes memory does. -/
def ae (P : Program) (op : Op) (F : Fr) (H : Heap) (nx : Nat) : Option Out :=
  match op with
  | .alloc t => aalloc P t H nx
  | .box _ x => abox (ev F x) H nx
  | .buildSlice t len ps => abuildSlice P t len (ps.toList.map fun p => (p.1, ev F p.2)) H nx
  | .store t a v => astore P t (ev F a) (ev F v) H nx
  | .makeMap t r => amakeMap P t (r.map (ev F)) H nx
  | .makeSlice t l c => amakeSlice P t (ev F l) (ev F c) H nx
  | .mapUpdate t m k v | .insert t m k v => amapUpdate P t (ev F m) (ev F k) (ev F v) H nx
  | .call c => aecall P c F H nx
  | _ => none

section
variable {P : Program} {base : Nat → Prop} {w0 : Start} {Z : ZMap} {φ : PMap} {H : Heap} {nx : Nat} {w : World}

theorem foldSet_size : ∀ (us : List Value) (c : Array Value) (o : Nat), (foldSet c o us).size = c.size
  | [], _, _ => rfl
  | u :: us, c, o => by simp only [foldSet]; rw [foldSet_size us]; simp
theorem foldSet_get : ∀ (us : List Value) (c : Array Value) (o x : Nat), (foldSet c o us)[x]? = if o ≤ x ∧ x < o + us.length ∧ x < c.size then us[x - o]? else c[x]?
  | [], c, o, x => by simp only [foldSet, List.length_nil]; rw [if_neg (by omega)]
  | u :: us, c, o, x => by
    simp only [foldSet]
    rw [foldSet_get us]
    simp only [Array.size_setIfInBounds, List.length_cons, Array.getElem?_setIfInBounds]
    by_cases h1 : o = x
    · subst h1
      rw [if_neg (by omega), if_pos rfl]
      by_cases h2 : o < c.size
      · rw [if_pos h2, if_pos (by omega)]; simp
      · rw [if_neg h2, if_neg (by omega)]; rw [Array.getElem?_eq_none (by omega)]
    · rw [if_neg h1]
      by_cases h2 : o + 1 ≤ x ∧ x < o + 1 + us.length ∧ x < c.size
      · rw [if_pos h2, if_pos (by omega)]
        have : x - o = (x - (o + 1)) + 1 := by omega
        rw [this, List.getElem?_cons_succ]
      · rw [if_neg h2, if_neg (by omega)]
theorem splice_get : ∀ (cs e : List AV) (o x : Nat), (splice e o cs)[x]? = if o ≤ x ∧ x < o + cs.length ∧ x < e.length then cs[x - o]? else e[x]?
  | [], e, o, x => by simp only [splice, List.length_nil]; rw [if_neg (by omega)]
  | u :: us, c, o, x => by
    simp only [splice]
    rw [splice_get us]
    simp only [List.length_set, List.length_cons, List.getElem?_set]
    by_cases h1 : o = x
    · subst h1
      rw [if_neg (by omega), if_pos rfl]
      by_cases h2 : o < c.length
      · rw [if_pos h2, if_pos (by omega)]; simp
      · rw [if_neg h2, if_neg (by omega)]; rw [List.getElem?_eq_none (by omega)]
    · rw [if_neg h1]
      by_cases h2 : o + 1 ≤ x ∧ x < o + 1 + us.length ∧ x < c.length
      · rw [if_pos h2, if_pos (by omega)]
        have : x - o = (x - (o + 1)) + 1 := by omega
        rw [this, List.getElem?_cons_succ]
      · rw [if_neg h2, if_neg (by omega)]

theorem setCell_block {B o : Nat} {c : Array Value} {T : TypeId} {fz : Nat × Nat} (h : w.heap[B]? = some (.cells c T fz)) (u : Value) :
    (w.setCell ⟨B, o, none⟩ u).heap[B]? = some (.cells (c.setIfInBounds o u) T fz) := by
  simp only [World.setCell, Array.getElem?_modify, if_true, h]; rfl
theorem setCells_block : ∀ (us : List Value) (w : World) (B o : Nat) (c : Array Value) (T : TypeId) (fz : Nat × Nat), w.heap[B]? = some (.cells c T fz) → (w.setCells B o us).heap[B]? = some (.cells (foldSet c o us) T fz)
  | [], _, _, _, _, _, _, h => h
  | u :: us, w, B, o, c, T, fz, h => by
    simp only [World.setCells, foldSet]
    exact setCells_block us _ B (o + 1) _ T fz (setCell_block h u)
theorem setCells_other : ∀ (us : List Value) (w : World) (B o k : Nat), k ≠ B → (w.setCells B o us).heap[k]? = w.heap[k]?
  | [], _, _, _, _, _ => rfl
  | u :: us, w, B, o, k, h => by
    simp only [World.setCells]
    rw [setCells_other us _ B (o + 1) k h]
    exact Below.heap_setCell w ⟨B, o, none⟩ u k h
theorem setCells_rest : ∀ (us : List Value) (w : World) (B o : Nat), (w.setCells B o us).os = w.os ∧ (w.setCells B o us).tape = w.tape ∧ (w.setCells B o us).output = w.output ∧ (w.setCells B o us).heap.size = w.heap.size
  | [], _, _, _ => ⟨rfl, rfl, rfl, rfl⟩
  | u :: us, w, B, o => by
    simp only [World.setCells]
    obtain ⟨a, b, c, d⟩ := setCells_rest us (w.setCell ⟨B, o, none⟩ u) B (o + 1)
    exact ⟨a, b, c, d.trans (by simp [World.setCell])⟩

/-- Cells of a block of the call's own, written. -/
theorem HRel.run_write (h : HRel base w0 Z φ H nx w) {b s : Nat} {blk : Blk} {es : List (List AV)} {l : Loc} (hb : H.get b = some blk) (hrow : asRow blk = some (s, es)) (hf : φ b = some l) {o : Nat} {us : List Value} (h1 : ∀ u ∈ us, u.oneCell' = true)
    (hlo : l.ob ≤ o) (hhi : o + us.length ≤ l.ob + l.lim * l.s) :
    (storeCells ⟨l.B, o, none⟩ us).run P w = .ok () (w.setCells l.B o us) := by
  obtain ⟨hz, hs, hlim, c, T, fz, hw, hsz, hfz, he⟩ := h.rowOf hb hrow hf
  refine run_storeCells_cells l.B o us 0 w (fun j hj => ?_) (fun j hj => ?_) h1
  · simp only [World.cell?, hw]
    have : o + j < c.size := by omega
    simp [this]
  · simp only [World.frozen?, hw]
    have := hfz (o + 0 + j) (by omega)
    simpa using this

/-- A block of the call's own goes on under another number. -/
theorem HRel.adopt (h : HRel base w0 Z φ H nx w) {b c : Nat} (hc : nx ≤ c) {x x' : Blk} {l l' : Loc} (hb : H.get b = some x) (hf : φ b = some l) {w' : World} (hl : l'.B = l.B)
    (hos : w'.os = w.os) (htp : w'.tape = w.tape) (hout : w'.output = w.output) (hsz : w.heap.size ≤ w'.heap.size) (hbl : ∀ k, k ≠ l.B → k < w.heap.size → w'.heap[k]? = w.heap[k]?)
    (hx : blkRel Z (φ.set c l') w' l' x') : HRel base w0 Z (φ.set c l') ((H.del b).set c x') (c + 1) w' := by
  obtain ⟨hz, hr⟩ := h.ownAt hb hf
  have hfr := h.fresh hc
  have hle := PMap.le_set (x := l') hfr
  have hcb : c ≠ b := by have := h.fnx b l hf; omega
  have gd : ∀ d y, (H.del b).get d = some y → d ≠ b ∧ H.get d = some y := fun d y hd => by
    rw [Heap.get_del] at hd
    by_cases e : d = b
    · rw [if_pos e] at hd; cases hd
    · rw [if_neg e] at hd; exact ⟨e, hd⟩
  refine ⟨h.kept hb hf hos htp hout hsz hbl, fun C o hC => ?_, h.z0, fun d y hy => ?_, fun d y hy => ?_, fun d ld hd => ?_, fun d y hy => ?_, ?_, ?_⟩
  · rw [hbl C (fun e => by subst e; rw [hz] at hC; cases hC) (by
      rcases Nat.lt_or_ge C w.heap.size with hlt | hge
      · exact hlt
      · have := h.z C o hC; rw [Array.getElem?_eq_none hge] at this; cases this)]
    exact h.z C o hC
  · unfold PMap.set at hy
    by_cases e : d = c
    · omega
    · rw [if_neg e] at hy; have := h.fnx d y hy; omega
  · rw [Heap.get_set] at hy
    by_cases e : d = c
    · omega
    · rw [if_neg e] at hy; have := h.hnx d y (gd d y hy).2; omega
  · unfold PMap.set at hd
    by_cases e : d = c
    · rw [if_pos e] at hd; injection hd with hd; subst hd; have := h.flt b l hf; omega
    · rw [if_neg e] at hd; have := h.flt d ld hd; omega
  · rw [Heap.get_set] at hy
    by_cases e : d = c
    · rw [if_pos e] at hy; injection hy with hy; subst hy; subst e
      exact .inr ⟨l', PMap.set_self _ _ _, by rw [hl]; exact hz, hx⟩
    · rw [if_neg e] at hy
      obtain ⟨hne, hy⟩ := gd d y hy
      rcases h.own' d y hy with ⟨hgh, hfd⟩ | ⟨ld, hfd, hzd, hrd⟩
      · exact .inl ⟨hgh, by unfold PMap.set; rw [if_neg e]; exact hfd⟩
      exact .inr ⟨ld, hle _ _ hfd, hzd, hrd.mono (ZLe.refl _) hle (hbl ld.B (h.inj d b y x ld l hne hy hb hfd hf) (h.flt _ _ hfd))⟩
  · intro d d' y y' l1 l2 hne hy hy' hd hd'
    rw [Heap.get_set] at hy hy'
    unfold PMap.set at hd hd'
    by_cases e : d = c
    · rw [if_pos e] at hd; injection hd with hd; subst hd
      by_cases e' : d' = c
      · omega
      · rw [if_neg e'] at hd' hy'
        obtain ⟨hne', hy'⟩ := gd d' y' hy'
        rw [hl]
        exact fun e3 => h.inj d' b y' x l2 l hne' hy' hb hd' hf e3.symm
    · rw [if_neg e] at hd hy
      obtain ⟨hne1, hy⟩ := gd d y hy
      by_cases e' : d' = c
      · rw [if_pos e'] at hd'; injection hd' with hd'; subst hd'
        rw [hl]
        exact h.inj d b y x l1 l hne1 hy hb hd hf
      · rw [if_neg e'] at hd' hy'
        obtain ⟨_, hy'⟩ := gd d' y' hy'
        exact h.inj d d' y y' l1 l2 hne hy hy' hd hd'
  · intro d y l1 hy hd hu
    rw [Heap.get_set] at hy
    unfold PMap.set at hd
    by_cases e : d = c
    · rw [if_pos e] at hd; injection hd with hd; subst hd; rw [hl] at hu ⊢; exact h.ob b x l hb hf hu
    · rw [if_neg e] at hd hy
      obtain ⟨_, hy⟩ := gd d y hy
      exact h.ob d y l1 hy hd hu

end
end Go.Lom
