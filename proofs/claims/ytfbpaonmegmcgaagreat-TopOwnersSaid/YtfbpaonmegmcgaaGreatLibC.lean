import Derived.Test.YtfbpaonmegmcgaaGreatLibV
set_option linter.all false
/- Typed contents read out of abstract values: plain definitions, and that they say the same of memory once the blocks that they come from are frozen. No conditions. -/
namespace Go.Lom
open Go.RowKit
def castL {t' t : Ty} (h : t' = t) (xs : List t'.den) : List t.den := h ▸ xs
theorem castL_self {t : Ty} (h : t = t) (xs : List t.den) : castL h xs = xs := rfl
def req (b : Bool) (K : Prop) : Prop := match b with | true => K | false => False
theorem req_iff {b : Bool} {K : Prop} : req b K ↔ b = true /\ K := by cases b <;> simp [req]
def allP : List Bool -> Prop -> Prop
 | [], K => K
 | p :: l, K => req p (allP l K)
theorem allP_iff : ∀ (l : List Bool) (K : Prop), allP l K ↔ (∀ p ∈ l, p = true) /\ K
 | [], K => by simp [allP]
 | p :: l, K => by simp only [allP, req_iff, allP_iff l K, List.forall_mem_cons, and_assoc]
def mapD {α : Type} (d : List AV -> Option (α × List Bool)) : List (List AV) -> Option (List α × List Bool)
 | [] => some ([], [])
 | e :: es => match d e with
  | some (x, p) => match mapD d es with
   | some (xs, q) => some (x :: xs, p ++ q)
   | none => none
  | none => none
def seg {α : Type} (off len : Nat) (xs : List α) : List α := (xs.drop off).take len
theorem seg_all {α : Type} (xs : List α) : seg 0 xs.length xs = xs := by simp [seg]
def elemsD (H : Heap) (t : Ty) (d : List AV -> Option (t.den × List Bool)) : AV -> Option (List t.den × List Bool)
 | .nils => some ([], [])
 | .emp => some ([], [])
 | .rl t' xs => if h : t' = t then some (castL h xs, []) else none
 | .rs xs => mapD d xs
 | .sl b s off len _ => if s = t.sz then match H.get b with
   | some (.lst t' xs) => if h : t' = t then some (seg off len (castL h xs), [decide (off + len <= xs.length)]) else none
   | some (.row _ es) => if off + len <= es.length then mapD d (seg off len es) else none
   | _ => none
  else none
 | _ => none
def castM {κ' ν' κ ν : Ty} (h : κ' = κ /\ ν' = ν) (l : List (κ'.den × ν'.den)) : List (κ.den × ν.den) := h.1 ▸ h.2 ▸ l
def castT {t' t : Ty} (h : t' = t) (x : t'.den) : t.den := h ▸ x
def basC : (κ : Ty) -> List AV -> Option κ.den
 | .i k, cs => (match cs with | [v] => (match v with | .int k' n => if k' = k then some n else none | _ => none) | _ => none)
 | .pr (.i j) y, cs => (match cs with | v :: cs => (match v with | .int j' m => if j' = j then (match basC y cs with | some r => some (m, r) | none => none) else none | _ => none) | _ => none)
 | _, _ => none
theorem basC_enc : ∀ {κ : Ty} {cs : List AV} {k : κ.den}, basC κ cs = some k -> cs = κ.enc k
 | .i k, cs, n, h => by
  unfold basC at h
  repeat' (split at h <;> try (cases h; done))
  rename_i e
  injection h with h; subst e h; rfl
 | .pr a y, cs, p, h => by
  cases a <;> try (simp [basC] at h; done)
  unfold basC at h
  split at h
  ·split at h
   ·split at h
    ·rename_i e
     split at h
     ·rename_i r hr
      injection h with h; subst e h
      rw [basC_enc hr]; rfl
     ·cases h
    ·cases h
   ·cases h
  ·cases h
 | .b, cs, n, h => by simp [basC] at h
 | .s, cs, n, h => by simp [basC] at h
 | .sl _, cs, n, h => by simp [basC] at h
 | .so _, cs, n, h => by simp [basC] at h
 | .ar _ _, cs, n, h => by simp [basC] at h
 | .mp _ _, cs, n, h => by simp [basC] at h
def basD : (κ : Ty) -> AV -> Option κ.den
 | .i k, x => (match x with | .int k' n => if k' = k then some n else none | _ => none)
 | .s, x => (match x with | .str s => some s | _ => none)
 | .b, x => (match x with | .bool b => some b | _ => none)
 | .pr a y, x => (match x with | .agg cs => basC (.pr a y) cs | _ => none)
 | _, _ => none
def tyC : List AV -> Option Ty
 | [] => none
 | .int k _ :: cs => match cs with
  | [] => some (.i k)
  | _ :: _ => match tyC cs with
   | some y => some (.pr (.i k) y)
   | none => none
 | _ => none
def tyA : AV -> Option Ty
 | .int k _ => some (.i k)
 | .bool _ => some .b
 | .str _ => some .s
 | .agg cs => tyC cs
 | _ => none
def tyM : List (AV × AV) -> Option (Ty × Ty)
 | [] => none
 | (k, v) :: _ => match tyA k with
  | some κ => match tyA v with
   | some ν => some (κ, ν)
   | none => none
  | none => none
theorem basD_val : ∀ {κ : Ty} {x : AV} {k : κ.den}, basD κ x = some k -> x = κ.val k
 | .i k, x, n, h => by
  cases x <;> simp only [basD, reduceCtorEq] at h
  split at h
  ·rename_i e; injection h with h; subst e h; rfl
  ·cases h
 | .s, x, n, h => by
  cases x <;> simp only [basD, reduceCtorEq, Option.some.injEq] at h
  subst h; rfl
 | .b, x, n, h => by
  cases x <;> simp only [basD, reduceCtorEq, Option.some.injEq] at h
  subst h; rfl
 | .sl _, x, n, h => by simp [basD] at h
 | .so _, x, n, h => by simp [basD] at h
 | .pr a y, x, n, h => by
  cases x <;> simp only [basD, reduceCtorEq] at h
  show AV.agg _ = .agg (Ty.enc (.pr a y) n)
  rw [basC_enc h]
 | .ar _ _, x, n, h => by simp [basD] at h
 | .mp _ _, x, n, h => by simp [basD] at h
def basL (κ ν : Ty) : List (AV × AV) -> Option (List (κ.den × ν.den))
 | [] => some []
 | (k, v) :: es => match basD κ k with
  | some a => match basD ν v with
   | some b => match basL κ ν es with
    | some l => some ((a, b) :: l)
    | none => none
   | none => none
  | none => none
theorem basL_enc {κ ν : Ty} : ∀ {es : List (AV × AV)} {l : List (κ.den × ν.den)}, basL κ ν es = some l -> es = encM κ ν l
 | [], l, h => by injection h with h; subst h; rfl
 | (k, v) :: es, l, h => by
  unfold basL at h
  split at h
  ·rename_i a ha
   split at h
   ·rename_i b hb
    split at h
    ·rename_i l' hl
     injection h with h; subst h
     rw [basD_val ha, basD_val hb, basL_enc hl]; rfl
    ·cases h
   ·cases h
  ·cases h
def mapsD (H : Heap) (κ ν : Ty) (d : List AV -> Option (ν.den × List Bool)) : AV -> Option (List (κ.den × ν.den) × List Bool)
 | .rt κ' ν' l => if h : κ' = κ /\ ν' = ν then some (castM h l, []) else none
 | .mp b => match H.get b with
  | some (.tm κ' ν' l) => if h : κ' = κ /\ ν' = ν then some (castM h l, []) else none
  | some (.tx κ' t' l k v _) => if h : κ' = κ /\ Ty.sl t' = ν then match d [v] with
    | some (x, ps) => some (castM h l ++ [(castT h.1 k, x)], ps)
    | none => none
   else none
  | some (.mp es) => match basL κ ν es with
   | some l => some (l, [])
   | none => none
  | _ => none
 | _ => none
def elemsR (H : Heap) (t : Ty) (d : List AV -> Option (t.den × List Bool)) : AV -> Option (List t.den × List Bool)
 | .ro t' xs => if h : t' = t then some (castL h xs, []) else none
 | v => elemsD H t d v
def soD (H : Heap) (t : Ty) (d : List AV -> Option (t.den × List Bool)) : AV -> Option (List t.den × List Bool)
 | .nils => some ([], [])
 | .ro t' xs => if h : t' = t then some (castL h xs, []) else none
 | v => match elemsD H t d v with
  | some (xs, ps) => some (xs, ps ++ [decide (0 < xs.length)])
  | none => none
def pairD {α β : Type} (x : Option (α × List Bool)) (y : Option (β × List Bool)) : Option ((α × β) × List Bool) :=
 match x with
 | some (a, p) => match y with
  | some (b, q) => some ((a, b), p ++ q)
  | none => none
 | none => none
def decI (k : IntKind) : List AV -> Option (Int × List Bool)
 | [.int k' n] => if k = k' then some (n, []) else none
 | _ => none
def decB : List AV -> Option (Bool × List Bool)
 | [.bool x] => some (x, [])
 | _ => none
def decS : List AV -> Option (List UInt8 × List Bool)
 | [.str x] => some (x, [])
 | _ => none
def decL {α : Type} (f : AV -> Option (α × List Bool)) : List AV -> Option (α × List Bool)
 | [v] => f v
 | _ => none
def chunkN (s : Nat) : Nat -> List AV -> List (List AV)
 | 0, _ => []
 | n + 1, cs => cs.take s :: chunkN s n (cs.drop s)
theorem chunkN_length (s : Nat) : ∀ (n : Nat) (cs : List AV), (chunkN s n cs).length = n
 | 0, _ => rfl
 | n + 1, cs => by simp [chunkN, chunkN_length s n]
theorem chunkN_flatten (s : Nat) : ∀ (n : Nat) (cs : List AV), cs.length = n * s -> (chunkN s n cs).flatten = cs
 | 0, cs, h => by
  have : cs = [] := List.eq_nil_of_length_eq_zero (by simpa using h)
  rw [this]; rfl
 | n + 1, cs, h => by
  simp only [chunkN, List.flatten_cons]
  rw [chunkN_flatten s n _ (by rw [List.length_drop, h, Nat.add_mul]; omega), List.take_append_drop]
def Ty.dec (H : Heap) : (t : Ty) -> List AV -> Option (t.den × List Bool)
 | .i k => decI k
 | .b => decB
 | .s => decS
 | .sl t => decL (elemsR H t (t.dec H))
 | .so t => decL (soD H t (t.dec H))
 | .pr x y => fun cs => pairD (x.dec H (cs.take x.sz)) (y.dec H (cs.drop x.sz))
 | .ar n t => fun cs => if cs.length = n * t.sz then mapD (t.dec H) (chunkN t.sz n cs) else none
 | .mp κ ν => decL (mapsD H κ ν (ν.dec H))
def chainD (k : IntKind) (xs : List Int) : (y : Ty) -> Nat -> Option (y.den × Nat)
 | .i k', i => if k = k' then some (xs.getD i 0, i + 1) else none
 | .pr (.i k') y, i => if k = k' then match chainD k xs y (i + 1) with
  | some (r, n) => some ((xs.getD i 0, r), n)
  | none => none
  else none
 | _, _ => none
def Ty.decV (H : Heap) : (t : Ty) -> AV -> Option (t.den × List Bool)
 | .pr x y, .agg cs => Ty.dec H (.pr x y) cs
 | .pr x y, .ar (.i k) xs => match chainD k xs (.pr x y) 0 with
  | some (p, n) => some (p, [decide (xs.length = n)])
  | none => none
 | .pr _ _, _ => none
 | .ar n t, .ar t' xs => if h : t' = t then some (castL h xs, [decide (xs.length = n)]) else none
 | .ar n t, .agg cs => Ty.dec H (.ar n t) cs
 | .ar _ _, _ => none
 | t, v => t.dec H [v]
abbrev dens : List Ty -> Type
 | [] => Unit
 | t :: ts => t.den × dens ts
def vals : (ts : List Ty) -> dens ts -> List AV
 | [], _ => []
 | t :: ts, x => t.val x.1 :: vals ts x.2
def decVs (H : Heap) : (ts : List Ty) -> List AV -> Option (dens ts × List Bool)
 | [], [] => some ((), [])
 | t :: ts, v :: vs => pairD (t.decV H v) (decVs H ts vs)
 | _, _ => none
theorem flatMap_cell {α : Type} {f : α -> List AV} : ∀ (ys : List α) (j : Nat) (v : AV), (ys.flatMap f)[j]? = some v -> ∃ y ∈ ys, ∃ i : Nat, (f y)[i]? = some v
 | [], j, v, h => by simp at h
 | y :: ys, j, v, h => by
  rw [List.flatMap_cons] at h
  by_cases hlt : j < (f y).length
  ·rw [List.getElem?_append_left hlt] at h
   exact ⟨y, List.mem_cons_self .., j, h⟩
  ·rw [List.getElem?_append_right (by omega)] at h
   obtain ⟨z, hz, i, hi⟩ := flatMap_cell ys _ v h
   exact ⟨z, List.mem_cons_of_mem _ hz, i, hi⟩
theorem free_both {Z Z' : ZMap} (hZ : ZLe Z Z') {φ φ' : PMap} : ∀ (t : Ty), (∀ (x : t.den) (j : Nat) (v : AV) (u : Value), (t.enc x)[j]? = some v -> Rep Z φ v u -> Rep Z' φ' v u) /\ ∀ (x : t.den) (u : Value), Rep Z φ (t.val x) u -> Rep Z' φ' (t.val x) u
 | .i k => by
  have e : ∀ (x : Int) (u : Value), Rep Z φ (.int k x) u -> Rep Z' φ' (.int k x) u := fun x u h => by cases h; exact .int _ _
  refine ⟨fun x j v u hj h => ?_, e⟩
  cases j <;> simp [Ty.enc] at hj
  subst hj; exact e x u h
 | .b => by
  have e : ∀ (x : Bool) (u : Value), Rep Z φ (.bool x) u -> Rep Z' φ' (.bool x) u := fun x u h => by cases h; exact .bool _
  refine ⟨fun x j v u hj h => ?_, e⟩
  cases j <;> simp [Ty.enc] at hj
  subst hj; exact e x u h
 | .s => by
  have e : ∀ (x : List UInt8) (u : Value), Rep Z φ (.str x) u -> Rep Z' φ' (.str x) u := fun x u h => by cases h; exact .str _
  refine ⟨fun x j v u hj h => ?_, e⟩
  cases j <;> simp [Ty.enc] at hj
  subst hj; exact e x u h
 | .sl t => by
  have ih := (free_both hZ (φ := φ) (φ' := φ') t).1
  have e : ∀ (xs : List t.den) (u : Value), Rep Z φ (.rl t xs) u -> Rep Z' φ' (.rl t xs) u := fun xs u h => by
   apply Rep.toRl
   have h := h.ofRl
   generalize hys : xs.map t.enc = ys at h
   cases h with
   | rs0 => exact .rs0
   | rs us hn hc ha h0 h1 h2 =>
    refine .rs us hn hc ha h0 (fun i e j v hi hj => zcell_mono hZ (h1 i e j v hi hj)) fun i e j v hi hj => ?_
    have hi' := hi
    rw [<- hys, List.getElem?_map] at hi'
    cases hx : xs[i]? with
    | none => rw [hx] at hi'; cases hi'
    | some x =>
     rw [hx] at hi'; injection hi' with hi'
     exact ih x j v _ (by rw [hi']; exact hj) (h2 i e j v hi hj)
  refine ⟨fun x j v u hj h => ?_, e⟩
  cases j <;> simp [Ty.enc] at hj
  subst hj; exact e x u h
 | .pr a b => by
  have e : ∀ (p : a.den × b.den) (j : Nat) (v : AV) (u : Value), (Ty.enc (.pr a b) p)[j]? = some v -> Rep Z φ v u -> Rep Z' φ' v u := fun p j v u hj h => by
   simp only [Ty.enc] at hj
   by_cases hlt : j < (a.enc p.1).length
   ·rw [List.getElem?_append_left hlt] at hj
    exact (free_both hZ (φ := φ) (φ' := φ') a).1 p.1 j v u hj h
   ·rw [List.getElem?_append_right (by omega)] at hj
    exact (free_both hZ (φ := φ) (φ' := φ') b).1 p.2 _ v u hj h
  refine ⟨e, fun x u h => ?_⟩
  simp only [Ty.val] at h ⊢
  cases h with
  | agg hl h => exact .agg hl fun i v u a b => e _ i v u a (h i v u a b)
 | .ar n t => by
  have ih := (free_both hZ (φ := φ) (φ' := φ') t).1
  refine ⟨fun xs j v u hj h => ?_, fun x u h => ?_⟩
  ·simp only [Ty.enc] at hj
   obtain ⟨y, _, i, hi⟩ := flatMap_cell _ j v hj
   exact ih y i v u hi h
  ·have h := Rep.ofAr (show Rep Z φ (.ar t x) u from h)
   apply Rep.toAr
   generalize hc : AV.agg (x.flatMap t.enc) = a at h
   cases h <;> cases hc
   rename_i us hl h
   refine .agg hl fun i v u a b => ?_
   obtain ⟨y, _, k, hk⟩ := flatMap_cell _ i v a
   exact ih y k v u hk (h i v u a b)
 | .so t => by
  have ih := (free_both hZ (φ := φ) (φ' := φ') t).1
  have el : ∀ (xs : List t.den) (u : Value), Rep Z φ (.rl t xs) u -> Rep Z' φ' (.rl t xs) u := fun xs u h => by
   apply Rep.toRl
   have h := h.ofRl
   generalize hys : xs.map t.enc = ys at h
   cases h with
   | rs0 => exact .rs0
   | rs us hn hc ha h0 h1 h2 =>
    refine .rs us hn hc ha h0 (fun i e j v hi hj => zcell_mono hZ (h1 i e j v hi hj)) fun i e j v hi hj => ?_
    have hi' := hi
    rw [<- hys, List.getElem?_map] at hi'
    cases hx : xs[i]? with
    | none => rw [hx] at hi'; cases hi'
    | some x =>
     rw [hx] at hi'; injection hi' with hi'
     exact ih x j v _ (by rw [hi']; exact hj) (h2 i e j v hi hj)
  have e : ∀ (xs : List t.den) (u : Value), Rep Z φ (.ro t xs) u -> Rep Z' φ' (.ro t xs) u := fun xs u h => by
   cases h with
   | ro0 => exact .ro0
   | ro h => exact .ro (el _ _ h)
  refine ⟨fun x j v u hj h => ?_, e⟩
  cases j <;> simp [Ty.enc] at hj
  subst hj; exact e x u h
 | .mp κ ν => by
  have i1 := (free_both hZ (φ := φ) (φ' := φ') κ).2
  have i2 := (free_both hZ (φ := φ) (φ' := φ') ν).2
  have e : ∀ (l : List (κ.den × ν.den)) (u : Value), Rep Z φ (.rt κ ν l) u -> Rep Z' φ' (.rt κ ν l) u := fun l u h => by
   cases h with
   | rt hz hn hb h1 h2 => exact .rt (hZ _ _ hz) hn hb (fun i p m a b => i1 _ _ (h1 i p m a b)) fun i p m a b => i2 _ _ (h2 i p m a b)
  refine ⟨fun x j v u hj h => ?_, e⟩
  cases j <;> simp [Ty.enc] at hj
  subst hj; exact e x u h
theorem enc_free {Z Z' : ZMap} (hZ : ZLe Z Z') {φ φ' : PMap} (t : Ty) (x : t.den) (j : Nat) (v : AV) (u : Value) (hj : (t.enc x)[j]? = some v) (h : Rep Z φ v u) : Rep Z' φ' v u := (free_both hZ t).1 x j v u hj h
theorem val_free {Z Z' : ZMap} (hZ : ZLe Z Z') {φ φ' : PMap} (t : Ty) (x : t.den) {u : Value} (h : Rep Z φ (t.val x) u) : Rep Z' φ' (t.val x) u := (free_both hZ t).2 x u h
def WeakC (Z Z' : ZMap) (φ φ' : PMap) (cs cs' : List AV) : Prop :=
 cs.length = cs'.length /\ ∀ (j : Nat) (v : AV), cs[j]? = some v -> ∃ v', cs'[j]? = some v' /\ ∀ u, Rep Z φ v u -> Rep Z' φ' v' u
theorem WeakC.append {Z Z' : ZMap} {φ φ' : PMap} {a b a' b' : List AV} (h : WeakC Z Z' φ φ' a a') (k : WeakC Z Z' φ φ' b b') : WeakC Z Z' φ φ' (a ++ b) (a' ++ b') := by
 refine ⟨by simp [h.1, k.1], fun j v hj => ?_⟩
 by_cases hlt : j < a.length
 ·rw [List.getElem?_append_left hlt] at hj
  rw [List.getElem?_append_left (by have := h.1; omega)]
  exact h.2 j v hj
 ·rw [List.getElem?_append_right (by omega)] at hj
  rw [List.getElem?_append_right (by have := h.1; omega), <- h.1]
  exact k.2 _ v hj
theorem mapD_get {α : Type} {d : List AV -> Option (α × List Bool)} : ∀ {es : List (List AV)} {xs : List α} {ps : List Bool}, mapD d es = some (xs, ps) -> es.length = xs.length /\
  ∀ (i : Nat) (e : List AV), es[i]? = some e -> ∃ x p, xs[i]? = some x /\ d e = some (x, p) /\ ∀ q ∈ p, q ∈ ps
 | [], xs, ps, h => by
  simp only [mapD, Option.some.injEq, Prod.mk.injEq] at h
  obtain ⟨rfl, rfl⟩ := h
  exact ⟨rfl, fun i e hi => by simp at hi⟩
 | e :: es, xs, ps, h => by
  simp only [mapD] at h
  split at h
  ·rename_i x p hd
   split at h
   ·rename_i ys q hm
    simp only [Option.some.injEq, Prod.mk.injEq] at h
    obtain ⟨rfl, rfl⟩ := h
    obtain ⟨h1, h2⟩ := mapD_get hm
    refine ⟨by simp [h1], fun i e' hi => ?_⟩
    cases i with
    | zero => simp at hi; subst hi; exact ⟨x, p, rfl, hd, fun q hq => List.mem_append_left _ hq⟩
    | succ i =>
     obtain ⟨y, r, hy, hr, hq⟩ := h2 i e' (by simpa using hi)
     exact ⟨y, r, by simpa using hy, hr, fun q hq' => List.mem_append_right _ (hq q hq')⟩
   ·cases h
  ·cases h
section
variable {base : Nat -> Prop} {w0 : Start} {Z Z' : ZMap} {φ φ' : PMap} {H : Heap} {nx : Nat} {w : World}
def Froze (φ : PMap) (H : Heap) (w : World) (Z Z' : ZMap) : Prop :=
 ZLe Z Z' /\ ∀ b x l, H.get b = some x -> φ b = some l -> Z' l.B = w.heap[l.B]?
theorem rows_frozen {x : Ty} (hf : Froze φ H w Z Z') {b : Nat} {blk : Blk} {l : Loc} {s : Nat} {es : List (List AV)} (hb : H.get b = some blk) (hl : φ b = some l) (hr : rowRel Z φ w l s es)
  {off len c : Nat} {ys : List x.den} {a : Addr} (hs : s = x.sz) (hoff : off + len <= es.length) (hlen : len <= c) (ha : a = ⟨l.B, l.ob + off * l.s, none⟩ \/ c = 0) (hy : ys.length = len)
  (hw : ∀ (i : Nat) (e : List AV), (seg off len es)[i]? = some e -> ∃ y, ys[i]? = some y /\ WeakC Z Z' φ φ' e (x.enc y)) : Rep Z' φ' (.rs (ys.map x.enc)) (.slice (some a) len c) := by
 obtain ⟨hs', hlim, cc, T, fz, hheap, hsz, _, he⟩ := hr
 have hZ' : Z' l.B = some (.cells cc T fz) := by rw [hf.2 b blk l hb hl, hheap]
 have cell : ∀ (i : Nat) (e : List AV) (j : Nat) (v : AV), (ys.map x.enc)[i]? = some e -> e[j]? = some v -> ∃ u, cc[l.ob + (off + i) * l.s + j]? = some u /\ Rep Z' φ' v u := by
  intro i e j v hi hj
  have hil : i < len := by have := (List.getElem?_eq_some_iff.1 hi).1; simp at this; omega
  have hseg : (seg off len es)[i]? = es[off + i]? := by simp [seg, List.getElem?_take, hil]
  have hlt : off + i < es.length := by omega
  rw [List.getElem?_eq_getElem hlt] at hseg
  obtain ⟨y, hy1, hwk⟩ := hw i _ hseg
  rw [List.getElem?_map, hy1] at hi
  simp only [Option.map_some, Option.some.injEq] at hi
  subst hi
  obtain ⟨h1, h2, h3⟩ := he (off + i) _ (List.getElem?_eq_getElem hlt)
  have hjl : j < es[off + i].length := by rw [hwk.1]; exact (List.getElem?_eq_some_iff.1 hj).1
  obtain ⟨v', hv', hr'⟩ := hwk.2 j _ (List.getElem?_eq_getElem hjl)
  rw [hj] at hv'; injection hv' with hv'; subst hv'
  obtain ⟨u, hu, hru⟩ := h3 j _ (List.getElem?_eq_getElem hjl)
  exact ⟨u, hu, hr' u hru⟩
 have hls : l.s = x.sz := by rw [<- hs', hs]
 refine .rs (B := l.B) (off := l.ob + off * l.s) (s := x.sz) (fun i j => cc.getD (l.ob + (off + i) * l.s + j) Go.undef) (by simp [hy]) hlen (by rcases ha with h | h; exact .inl h; exact .inr (by omega)) (fun i e hi => ?_) (fun i e j v hi hj => ?_) fun i e j v hi hj => ?_
 ·rw [List.getElem?_map] at hi
  cases hx : ys[i]? with
  | none => rw [hx] at hi; cases hi
  | some y => rw [hx] at hi; injection hi with hi; subst hi; exact ⟨x.enc_length y, x.enc_oneC y⟩
 ·obtain ⟨u, hu, _⟩ := cell i e j v hi hj
  unfold zcell
  rw [hZ']
  have e1 : l.ob + off * l.s + i * x.sz + j = l.ob + (off + i) * l.s + j := by rw [<- hls, Nat.add_mul]; omega
  simp only
  rw [e1, hu]
  simp [Array.getD_eq_getD_getElem?, hu]
 ·obtain ⟨u, hu, hr⟩ := cell i e j v hi hj
  simpa [Array.getD_eq_getD_getElem?, hu] using hr
theorem rep_rs_nil {Z : ZMap} {φ : PMap} (a : Addr) (c : Nat) : Rep Z φ (.rs []) (.slice (some a) 0 c) :=
 .rs (s := 0) (B := 0) (off := 0) (fun _ _ => Go.undef) rfl (Nat.zero_le _) (.inr rfl) (fun i e hi => by simp at hi) (fun i e j v hi => by simp at hi) (fun i e j v hi => by simp at hi)
def OwnR (Z : ZMap) (φ : PMap) (H : Heap) (w : World) : Prop := ∀ b blk l, H.get b = some blk -> φ b = some l -> blkRel Z φ w l blk
theorem HRel.ownR (h : HRel base w0 Z φ H nx w) : OwnR Z φ H w := fun _ _ _ hb hl => (h.ownAt hb hl).2
theorem elemsD_ok (hh : OwnR Z φ H w) (hf : Froze φ H w Z Z') {t : Ty} {d : List AV -> Option (t.den × List Bool)}
  (hd : ∀ cs x ps, d cs = some (x, ps) -> (∀ p ∈ ps, p = true) -> WeakC Z Z' φ φ' cs (t.enc x)) {v : AV} {u : Value} {xs : List t.den} {ps : List Bool} (h : elemsD H t d v = some (xs, ps)) (hp : ∀ p ∈ ps, p)
  (hv : Rep Z φ v u) : Rep Z' φ' (.rl t xs) u := by
 apply Rep.toRl
 unfold elemsD at h
 cases hv with
 | nils => simp only [Option.some.injEq, Prod.mk.injEq] at h; obtain ⟨rfl, rfl⟩ := h; exact .rs0
 | emp a => simp only [Option.some.injEq, Prod.mk.injEq] at h; obtain ⟨rfl, rfl⟩ := h; exact rep_rs_nil a 0
 | rl hr =>
  rename_i t' ys ao n c
  simp only at h
  split at h
  ·rename_i ht
   subst ht
   simp only [Option.some.injEq, Prod.mk.injEq] at h
   obtain ⟨rfl, rfl⟩ := h
   exact (enc_free hf.1 (.sl t') ys 0 _ _ rfl hr.toRl).ofRl
  ·cases h
 | rs0 =>
  simp only [mapD, Option.some.injEq, Prod.mk.injEq] at h
  obtain ⟨rfl, rfl⟩ := h; exact .rs0
 | rs us hn hc ha h0 h1 h2 =>
  rename_i es B off c s n a
  obtain ⟨hl, hg⟩ := mapD_get h
  have conv : ∀ (i : Nat) (e : List AV) (j : Nat) (v : AV), (xs.map t.enc)[i]? = some e -> e[j]? = some v -> ∃ e' v', es[i]? = some e' /\ e'[j]? = some v' /\ e'.length = t.sz /\ Rep Z' φ' v (us i j) := by
   intro i e j v hi hj
   have hil : i < es.length := by have := (List.getElem?_eq_some_iff.1 hi).1; simp at this; omega
   obtain ⟨y, p, hy, hdy, hq⟩ := hg i _ (List.getElem?_eq_getElem hil)
   rw [List.getElem?_map, hy] at hi
   simp only [Option.map_some, Option.some.injEq] at hi
   subst hi
   have hw := hd _ _ _ hdy fun q hq' => hp q (hq q hq')
   have hjl : j < es[i].length := by rw [hw.1]; exact (List.getElem?_eq_some_iff.1 hj).1
   obtain ⟨v', hv', hr'⟩ := hw.2 j _ (List.getElem?_eq_getElem hjl)
   rw [hj] at hv'; injection hv' with hv'; subst hv'
   exact ⟨_, _, List.getElem?_eq_getElem hil, List.getElem?_eq_getElem hjl, by rw [hw.1, Ty.enc_length], hr' _ (h2 i _ j _ (List.getElem?_eq_getElem hil) (List.getElem?_eq_getElem hjl))⟩
  by_cases hnil : es = []
  ·subst hnil
   have : xs = [] := List.eq_nil_of_length_eq_zero (by simpa using hl.symm)
   subst this
   simp only [List.length_nil] at hn
   subst hn
   exact rep_rs_nil a c
  have hs : s = t.sz := by
   cases es with
   | nil => exact absurd rfl hnil
   | cons e0 es0 =>
    obtain ⟨y, p, _, hdy, hq⟩ := hg 0 e0 rfl
    have := (hd _ _ _ hdy fun q hq' => hp q (hq q hq')).1
    rw [Ty.enc_length] at this
    rw [<- (h0 0 e0 rfl).1, this]
  refine .rs us (by rw [List.length_map, <- hl]; exact hn) hc ha (s := s) (fun i e hi => ?_) (fun i e j v hi hj => ?_) fun i e j v hi hj => (let ⟨_, _, _, _, _, hr⟩ := conv i e j v hi hj; hr)
  ·rw [List.getElem?_map] at hi
   cases hx : xs[i]? with
   | none => rw [hx] at hi; cases hi
   | some y => rw [hx] at hi; injection hi with hi; subst hi; exact ⟨by rw [t.enc_length y, hs], t.enc_oneC y⟩
  ·obtain ⟨e', v', he', hv', _, _⟩ := conv i e j v hi hj
   exact zcell_mono hf.1 (h1 i e' j v' he' hv')
 | sl hl hls hc hlc hlm ha =>
  rename_i b s off len c l cap a
  simp only at h
  split at h
  ·rename_i hst
   split at h
   ·rename_i t' ys hb
    split at h
    ·rename_i ht
     subst ht
     simp only [Option.some.injEq, Prod.mk.injEq] at h
     obtain ⟨rfl, rfl⟩ := h
     have hle : off + len <= ys.length := of_decide_eq_true (hp _ (List.mem_singleton.2 rfl))
     have hr := hh _ _ _ hb hl
     refine rows_frozen hf hb hl hr rfl (by simpa using hle) hlc (by rw [hls]; exact ha) (by simp [seg, castL_self]; omega) fun i e hi => ?_
     have e1 : seg off len (ys.map t'.enc) = (seg off len ys).map t'.enc := by simp [seg, List.map_take, List.map_drop]
     rw [e1, List.getElem?_map] at hi
     cases hy : (seg off len ys)[i]? with
     | none => rw [hy] at hi; cases hi
     | some y =>
      rw [hy] at hi; injection hi with hi; subst hi
      exact ⟨y, hy, rfl, fun j v hj => ⟨v, hj, fun u hu => enc_free hf.1 _ y j v u hj hu⟩⟩
    ·cases h
   ·rename_i s' es hb
    split at h
    ·rename_i hle
     obtain ⟨hlx, hg⟩ := mapD_get h
     have hr := hh _ _ _ hb hl
     have hr : rowRel Z φ w l s' es := hr
     have hlen : (seg off len es).length = len := by simp [seg]; omega
     exact rows_frozen hf hb hl hr (by rw [hr.1, hls, hst]) hle hlc (by rw [hls]; exact ha) (by omega) fun i e hi =>
      let ⟨y, p, hy, hdy, hq⟩ := hg i e hi
      ⟨y, hy, hd _ _ _ hdy fun q hq' => hp q (hq q hq')⟩
    ·cases h
   ·cases h
  ·cases h
 | sl0n hc =>
  rename_i b s off cap
  simp only at h
  split at h
  ·split at h
   ·split at h
    ·simp only [Option.some.injEq, Prod.mk.injEq] at h
     obtain ⟨rfl, rfl⟩ := h
     simp [seg]; exact .rs0
    ·cases h
   ·split at h
    ·simp only [seg, List.take_zero, mapD, Option.some.injEq, Prod.mk.injEq] at h
     obtain ⟨rfl, rfl⟩ := h; exact .rs0
    ·cases h
   ·cases h
  ·cases h
 | sl0s hc a =>
  rename_i b s off cap
  simp only at h
  split at h
  ·split at h
   ·split at h
    ·simp only [Option.some.injEq, Prod.mk.injEq] at h
     obtain ⟨rfl, rfl⟩ := h
     simp [seg]; exact rep_rs_nil a 0
    ·cases h
   ·split at h
    ·simp only [seg, List.take_zero, mapD, Option.some.injEq, Prod.mk.injEq] at h
     obtain ⟨rfl, rfl⟩ := h; exact rep_rs_nil a 0
    ·cases h
   ·cases h
  ·cases h
 | _ => cases h
theorem mapD_flat {t : Ty} {d : List AV -> Option (t.den × List Bool)} (hd : ∀ cs x ps, d cs = some (x, ps) -> (∀ p ∈ ps, p = true) -> WeakC Z Z' φ φ' cs (t.enc x)) : ∀ (es : List (List AV)) (xs : List t.den) (ps : List Bool), mapD d es = some (xs, ps) -> (∀ p ∈ ps, p = true) -> WeakC Z Z' φ φ' es.flatten (xs.flatMap t.enc)
 | [], xs, ps, h, hp => by
  simp only [mapD, Option.some.injEq, Prod.mk.injEq] at h
  obtain ⟨rfl, rfl⟩ := h
  exact ⟨rfl, fun j v hj => by simp at hj⟩
 | e :: es, xs, ps, h, hp => by
  simp only [mapD] at h
  split at h
  ·rename_i x p hx
   split at h
   ·rename_i ys q hm
    simp only [Option.some.injEq, Prod.mk.injEq] at h
    obtain ⟨rfl, rfl⟩ := h
    rw [List.flatten_cons, List.flatMap_cons]
    exact (hd _ _ _ hx fun b hb => hp b (List.mem_append_left _ hb)).append (mapD_flat hd es ys q hm fun b hb => hp b (List.mem_append_right _ hb))
   ·cases h
  ·cases h
theorem ro_rl {Z : ZMap} {φ : PMap} {t : Ty} {xs : List t.den} {u : Value} (h : Rep Z φ (.ro t xs) u) : Rep Z φ (.rl t xs) u := by
 cases h with
 | ro0 => exact .rl .rs0
 | ro h => exact h
theorem rl_ro {Z : ZMap} {φ : PMap} {t : Ty} {xs : List t.den} {u : Value} (hx : 0 < xs.length) (h : Rep Z φ (.rl t xs) u) : Rep Z φ (.ro t xs) u := by
 cases xs with
 | nil => simp at hx
 | cons x xs =>
  cases h with
  | rl h => exact .ro (.rl h)
theorem elemsR_ok (hh : OwnR Z φ H w) (hf : Froze φ H w Z Z') {t : Ty} {d : List AV -> Option (t.den × List Bool)}
  (hd : ∀ cs x ps, d cs = some (x, ps) -> (∀ p ∈ ps, p = true) -> WeakC Z Z' φ φ' cs (t.enc x)) {v : AV} {u : Value} {xs : List t.den} {ps : List Bool} (h : elemsR H t d v = some (xs, ps)) (hp : ∀ p ∈ ps, p)
  (hv : Rep Z φ v u) : Rep Z' φ' (.rl t xs) u := by
 unfold elemsR at h
 split at h
 ·split at h
  ·rename_i ht
   subst ht
   simp only [Option.some.injEq, Prod.mk.injEq] at h
   obtain ⟨rfl, rfl⟩ := h
   exact ro_rl (val_free hf.1 (.so _) _ hv)
  ·cases h
 ·exact elemsD_ok hh hf hd h hp hv
theorem soD_ok (hh : OwnR Z φ H w) (hf : Froze φ H w Z Z') {t : Ty} {d : List AV -> Option (t.den × List Bool)}
  (hd : ∀ cs x ps, d cs = some (x, ps) -> (∀ p ∈ ps, p = true) -> WeakC Z Z' φ φ' cs (t.enc x)) {v : AV} {u : Value} {xs : List t.den} {ps : List Bool} (h : soD H t d v = some (xs, ps)) (hp : ∀ p ∈ ps, p)
  (hv : Rep Z φ v u) : Rep Z' φ' (.ro t xs) u := by
 unfold soD at h
 split at h
 ·simp only [Option.some.injEq, Prod.mk.injEq] at h
  obtain ⟨rfl, rfl⟩ := h
  cases hv; exact .ro0
 ·split at h
  ·rename_i ht
   subst ht
   simp only [Option.some.injEq, Prod.mk.injEq] at h
   obtain ⟨rfl, rfl⟩ := h
   exact val_free hf.1 (.so _) _ hv
  ·cases h
 ·split at h
  ·rename_i ys qs he
   simp only [Option.some.injEq, Prod.mk.injEq] at h
   obtain ⟨rfl, rfl⟩ := h
   exact rl_ro (of_decide_eq_true (hp _ (List.mem_append_right _ (List.mem_singleton.2 rfl)))) (elemsD_ok hh hf hd he (fun q hq => hp q (List.mem_append_left _ hq)) hv)
  ·cases h
theorem mpRel_rt (hf : Froze φ H w Z Z') {b : Nat} {blk : Blk} {lc : Loc} (hb : H.get b = some blk) (hl : φ b = some lc) {κ ν : Ty} {es : List (AV × AV)} {l : List (κ.den × ν.den)} (hr : mpRel Z φ w lc es) (hn : es.length = l.length)
  (hw : ∀ (i : Nat) (k v : AV) (p : κ.den × ν.den), es[i]? = some (k, v) -> l[i]? = some p -> (∀ u, Rep Z φ k u -> Rep Z' φ' (κ.val p.1) u) /\ ∀ u, Rep Z φ v u -> Rep Z' φ' (ν.val p.2) u) : Rep Z' φ' (.rt κ ν l) (.map (some lc.B)) := by
 obtain ⟨ms, clk, hh, hbo, hsz, he⟩ := hr
 have hz : Z' lc.B = some (.map ms clk) := (hf.2 b blk lc hb hl).trans hh
 have at_ : ∀ (i : Nat) (p : κ.den × ν.den) (m : MapEntry), l[i]? = some p -> ms[i]? = some m -> Rep Z' φ' (κ.val p.1) m.key /\ Rep Z' φ' (ν.val p.2) m.val := fun i p m hp hm => by
  have hi : i < es.length := by rw [hn]; exact (List.getElem?_eq_some_iff.1 hp).1
  have hk : es[i]? = some (es[i].1, es[i].2) := List.getElem?_eq_getElem hi
  obtain ⟨h1, h2⟩ := he i _ _ m hk hm
  obtain ⟨w1, w2⟩ := hw i _ _ p hk hp
  exact ⟨w1 _ h1, w2 _ h2⟩
 exact .rt hz (by omega) hbo (fun i p m a b => (at_ i p m a b).1) fun i p m a b => (at_ i p m a b).2
theorem encM_get {κ ν : Ty} {l : List (κ.den × ν.den)} {i : Nat} {k v : AV} {p : κ.den × ν.den} (h : (encM κ ν l)[i]? = some (k, v)) (hp : l[i]? = some p) : k = κ.val p.1 /\ v = ν.val p.2 := by
 rw [encM, List.getElem?_map, hp] at h
 injection h with h; injection h with h1 h2; exact ⟨h1.symm, h2.symm⟩
theorem mapsD_ok (hh : OwnR Z φ H w) (hf : Froze φ H w Z Z') {κ ν : Ty} {d : List AV -> Option (ν.den × List Bool)}
  (hd : ∀ v x ps, d [v] = some (x, ps) -> (∀ p ∈ ps, p = true) -> (∃ t, ν = .sl t) -> ∀ u, Rep Z φ v u -> Rep Z' φ' (ν.val x) u) {v : AV} {u : Value} {l : List (κ.den × ν.den)} {ps : List Bool} (h : mapsD H κ ν d v = some (l, ps)) (hp : ∀ p ∈ ps, p = true)
  (hv : Rep Z φ v u) : Rep Z' φ' (.rt κ ν l) u := by
 unfold mapsD at h
 cases hv with
 | rt hz hn hbo h1 h2 =>
  rename_i κ' ν' l' B ms clk
  simp only at h
  split at h
  ·rename_i ht
   obtain ⟨rfl, rfl⟩ := ht
   simp only [Option.some.injEq, Prod.mk.injEq] at h
   obtain ⟨rfl, rfl⟩ := h
   exact val_free hf.1 (.mp κ' ν') l' (Rep.rt hz hn hbo h1 h2)
  ·cases h
 | mp hl =>
  rename_i b lc
  simp only at h
  split at h
  ·rename_i κ' ν' l' hb
   split at h
   ·rename_i ht
    obtain ⟨rfl, rfl⟩ := ht
    simp only [Option.some.injEq, Prod.mk.injEq] at h
    obtain ⟨rfl, rfl⟩ := h
    refine mpRel_rt hf hb hl (hh _ _ _ hb hl) (by simp [encM, castM]) fun i k v p h1 h2 => ?_
    obtain ⟨rfl, rfl⟩ := encM_get h1 h2
    exact ⟨fun u hu => val_free hf.1 _ _ hu, fun u hu => val_free hf.1 _ _ hu⟩
   ·cases h
  ·rename_i κ' t' l' k0 v0 st hb
   split at h
   ·rename_i ht
    obtain ⟨rfl, rfl⟩ := ht
    split at h
    ·rename_i x qs hx
     simp only [Option.some.injEq, Prod.mk.injEq] at h
     obtain ⟨rfl, rfl⟩ := h
     refine mpRel_rt hf hb hl (hh _ _ _ hb hl).1 (by simp [encM, castM]) fun i k v p h1 h2 => ?_
     have hlen : (encM κ' (.sl t') l').length = l'.length := by simp [encM]
     have h2 : (l' ++ [(k0, x)])[i]? = some p := h2
     by_cases hi : i < l'.length
     ·rw [List.getElem?_append_left (by omega)] at h1
      rw [List.getElem?_append_left hi] at h2
      obtain ⟨rfl, rfl⟩ := encM_get h1 h2
      exact ⟨fun u hu => val_free hf.1 _ _ hu, fun u hu => val_free hf.1 _ _ hu⟩
     ·rw [List.getElem?_append_right (by omega), hlen] at h1
      rw [List.getElem?_append_right (by omega)] at h2
      generalize i - l'.length = j at h1 h2
      cases j with
      | succ j => simp at h1
      | zero =>
       simp only [List.getElem?_cons_zero, Option.some.injEq, Prod.mk.injEq] at h1 h2
       obtain ⟨rfl, rfl⟩ := h1
       subst h2
       exact ⟨fun u hu => val_free hf.1 _ _ hu, fun u hu => hd v0 x qs hx hp ⟨t', rfl⟩ u hu⟩
    ·cases h
   ·cases h
  ·rename_i es hb
   split at h
   ·rename_i l2 hl2
    simp only [Option.some.injEq, Prod.mk.injEq] at h
    obtain ⟨rfl, rfl⟩ := h
    have he := basL_enc hl2
    have hr : mpRel Z φ w lc es := hh _ _ _ hb hl
    refine mpRel_rt hf hb hl hr (by rw [he]; simp [encM]) fun i k v p h1 h2 => ?_
    rw [he] at h1
    obtain ⟨rfl, rfl⟩ := encM_get h1 h2
    exact ⟨fun u hu => val_free hf.1 _ _ hu, fun u hu => val_free hf.1 _ _ hu⟩
   ·cases h
  ·cases h
 | _ => cases h
theorem dec_ok (hh : OwnR Z φ H w) (hf : Froze φ H w Z Z') : ∀ (t : Ty) (cs : List AV) (x : t.den) (ps : List Bool), t.dec H cs = some (x, ps) -> (∀ p ∈ ps, p = true) -> WeakC Z Z' φ φ' cs (t.enc x)
 | .i k, cs, x, ps, h, hp => by
  have h : decI k cs = some (x, ps) := h
  unfold decI at h
  split at h
  ·split at h
   ·rename_i hk
    simp only [Option.some.injEq, Prod.mk.injEq] at h
    obtain ⟨rfl, rfl⟩ := h
    subst hk
    refine ⟨rfl, fun j v hj => ⟨v, hj, fun u hu => ?_⟩⟩
    cases j <;> simp at hj
    subst hj; cases hu; exact .int _ _
   ·cases h
  ·cases h
 | .b, cs, x, ps, h, hp => by
  have h : decB cs = some (x, ps) := h
  unfold decB at h
  split at h
  ·simp only [Option.some.injEq, Prod.mk.injEq] at h
   obtain ⟨rfl, rfl⟩ := h
   refine ⟨rfl, fun j v hj => ⟨v, hj, fun u hu => ?_⟩⟩
   cases j <;> simp at hj
   subst hj; cases hu; exact .bool _
  ·cases h
 | .s, cs, x, ps, h, hp => by
  have h : decS cs = some (x, ps) := h
  unfold decS at h
  split at h
  ·simp only [Option.some.injEq, Prod.mk.injEq] at h
   obtain ⟨rfl, rfl⟩ := h
   refine ⟨rfl, fun j v hj => ⟨v, hj, fun u hu => ?_⟩⟩
   cases j <;> simp at hj
   subst hj; cases hu; exact .str _
  ·cases h
 | .sl t, cs, x, ps, h, hp => by
  have h : decL (elemsR H t (t.dec H)) cs = some (x, ps) := h
  unfold decL at h
  split at h
  ·refine ⟨rfl, fun j v hj => ⟨.rl t x, ?_, fun u hu => ?_⟩⟩
   ·cases j <;> simp at hj
    rfl
   ·cases j <;> simp at hj
    subst hj
    exact elemsR_ok hh hf (fun cs x ps h1 h2 => dec_ok hh hf t cs x ps h1 h2) h hp hu
  ·cases h
 | .so t, cs, x, ps, h, hp => by
  have h : decL (soD H t (t.dec H)) cs = some (x, ps) := h
  unfold decL at h
  split at h
  ·refine ⟨rfl, fun j v hj => ⟨.ro t x, ?_, fun u hu => ?_⟩⟩
   ·cases j <;> simp at hj
    rfl
   ·cases j <;> simp at hj
    subst hj
    exact soD_ok hh hf (fun cs x ps h1 h2 => dec_ok hh hf t cs x ps h1 h2) h hp hu
  ·cases h
 | .pr a b, cs, p, ps, h, hp => by
  have h : pairD (a.dec H (cs.take a.sz)) (b.dec H (cs.drop a.sz)) = some (p, ps) := h
  unfold pairD at h
  split at h
  ·rename_i x q hx
   split at h
   ·rename_i y r hy
    simp only [Option.some.injEq, Prod.mk.injEq] at h
    obtain ⟨rfl, rfl⟩ := h
    have h1 := dec_ok hh hf a _ x q hx fun p hp' => hp p (List.mem_append_left _ hp')
    have h2 := dec_ok hh hf b _ y r hy fun p hp' => hp p (List.mem_append_right _ hp')
    have := h1.append h2
    rw [List.take_append_drop] at this
    exact this
   ·cases h
  ·cases h
 | .ar n t, cs, xs, ps, h, hp => by
  have h : (if cs.length = n * t.sz then mapD (t.dec H) (chunkN t.sz n cs) else none) = some (xs, ps) := h
  split at h
  ·rename_i hlen
   obtain ⟨hl, hg⟩ := mapD_get h
   rw [chunkN_length] at hl
   show WeakC Z Z' φ φ' cs ((padL n t.dflt xs).flatMap t.enc)
   rw [padL_self hl.symm, <- chunkN_flatten t.sz n cs hlen]
   exact mapD_flat (fun cs x ps h1 h2 => dec_ok hh hf t cs x ps h1 h2) _ xs ps h hp
  ·cases h
 | .mp κ ν, cs, l, ps, h, hp => by
  have h : decL (mapsD H κ ν (ν.dec H)) cs = some (l, ps) := h
  unfold decL at h
  split at h
  ·refine ⟨rfl, fun j v hj => ⟨.rt κ ν l, ?_, fun u hu => ?_⟩⟩
   ·cases j <;> simp at hj
    rfl
   ·cases j <;> simp at hj
    subst hj
    refine mapsD_ok hh hf (fun v x ps h1 h2 ht u hu => ?_) h hp hu
    obtain ⟨t, rfl⟩ := ht
    obtain ⟨_, h3⟩ := dec_ok hh hf (.sl t) [v] x ps h1 h2
    obtain ⟨v', hv', hr⟩ := h3 0 v rfl
    have : v' = .rl t x := by simpa [Ty.enc] using hv'.symm
    subst this
    exact hr u hu
  ·cases h
theorem chainD_enc {k : IntKind} {xs : List Int} : ∀ (y : Ty) (i : Nat) (p : y.den) (n : Nat), chainD k xs y i = some (p, n) -> i < n /\ (n <= xs.length -> y.enc p = ((xs.drop i).take (n - i)).map (AV.int k))
 | .i k', i, p, n, h => by
  unfold chainD at h
  split at h
  ·rename_i hk
   subst hk
   simp only [Option.some.injEq, Prod.mk.injEq] at h
   obtain ⟨rfl, rfl⟩ := h
   refine ⟨by omega, fun hn => ?_⟩
   have h1 : i < xs.length := by omega
   have e : i + 1 - i = 1 := by omega
   rw [e, List.drop_eq_getElem_cons h1]
   simp only [Ty.enc, List.take_succ_cons, List.take_zero, List.map_cons, List.map_nil, List.getD_eq_getElem?_getD, List.getElem?_eq_getElem h1, Option.getD_some]
  ·cases h
 | .pr a y, i, p, n, h => by
  cases a <;> try (simp [chainD] at h; done)
  rename_i k'
  unfold chainD at h
  split at h
  ·rename_i hk
   subst hk
   split at h
   ·rename_i r m hr
    simp only [Option.some.injEq, Prod.mk.injEq] at h
    obtain ⟨rfl, rfl⟩ := h
    obtain ⟨h1, h2⟩ := chainD_enc y (i + 1) r m hr
    refine ⟨by omega, fun hn => ?_⟩
    have h3 : i < xs.length := by omega
    have e : m - i = (m - (i + 1)) + 1 := by omega
    rw [List.drop_eq_getElem_cons h3, e, List.take_succ_cons, List.map_cons, <- h2 hn]
    simp [Ty.enc, h3]
   ·cases h
  ·cases h
 | .b, i, p, n, h => by simp [chainD] at h
 | .s, i, p, n, h => by simp [chainD] at h
 | .sl _, i, p, n, h => by simp [chainD] at h
 | .ar _ _, i, p, n, h => by simp [chainD] at h
 | .mp _ _, i, p, n, h => by simp [chainD] at h
 | .so _, i, p, n, h => by simp [chainD] at h
theorem decV_ok (hh : OwnR Z φ H w) (hf : Froze φ H w Z Z') {t : Ty} {v : AV} {x : t.den} {ps : List Bool} (h : t.decV H v = some (x, ps)) (hp : ∀ p ∈ ps, p) {u : Value} (hv : Rep Z φ v u) : Rep Z' φ' (t.val x) u := by
 have one : ∀ (t : Ty) (x : t.den), t.dec H [v] = some (x, ps) -> (t.enc x)[0]? = some (t.val x) -> Rep Z' φ' (t.val x) u := fun t x h he => by
  obtain ⟨_, h2⟩ := dec_ok (φ' := φ') hh hf t _ x ps h hp
  obtain ⟨v', hv', hr⟩ := h2 0 v rfl
  rw [he] at hv'; injection hv' with hv'; subst hv'
  exact hr u hv
 cases t with
 | i k => exact one (.i k) x h rfl
 | b => exact one .b x h rfl
 | s => exact one .s x h rfl
 | sl t => exact one (.sl t) x h rfl
 | mp κ ν => exact one (.mp κ ν) x h rfl
 | so t => exact one (.so t) x h rfl
 | pr a b =>
  cases hv with
  | ar hr =>
   rename_i t' xs us
   cases t' <;> try (simp [Ty.decV] at h; done)
   rename_i k
   simp only [Ty.decV] at h
   split at h
   ·rename_i p n hc
    simp only [Option.some.injEq, Prod.mk.injEq] at h
    obtain ⟨rfl, rfl⟩ := h
    have hn : xs.length = n := of_decide_eq_true (hp _ (List.mem_singleton.2 rfl))
    have he := (chainD_enc _ 0 p n hc).2 (by omega)
    have e2 : ∀ l : List Int, l.flatMap (Ty.enc (.i k)) = l.map (AV.int k) := fun l => by
     induction l with
     | nil => rfl
     | cons a l ih => rw [List.flatMap_cons, ih]; rfl
    rw [e2] at hr
    show Rep Z' φ' (.agg (Ty.enc (.pr a b) p)) _
    rw [he, List.drop_zero, Nat.sub_zero, <- hn, List.take_length]
    cases hr with
    | agg hl hr =>
     refine .agg hl fun i v u h1 h2 => ?_
     have := hr i v u h1 h2
     rw [List.getElem?_map] at h1
     cases hx : xs[i]? with
     | none => rw [hx] at h1; cases h1
     | some z => rw [hx] at h1; injection h1 with h1; subst h1; cases this; exact .int _ _
   ·cases h
  | agg hl hr =>
   rename_i cs us
   have h : Ty.dec H (.pr a b) cs = some (x, ps) := h
   obtain ⟨h1, h2⟩ := dec_ok (φ' := φ') hh hf (.pr a b) cs x ps h hp
   refine .agg (by rw [hl, h1]) fun i v u hv hu => ?_
   have hi : i < cs.length := by rw [h1]; exact (List.getElem?_eq_some_iff.1 hv).1
   obtain ⟨v', hv', hrv⟩ := h2 i _ (List.getElem?_eq_getElem hi)
   rw [hv] at hv'; injection hv' with hv'; subst hv'
   exact hrv u (hr i _ u (List.getElem?_eq_getElem hi) hu)
  | _ => simp [Ty.decV] at h
 | ar n t =>
  cases hv with
  | agg hl hr =>
   rename_i cs us
   have h : Ty.dec H (.ar n t) cs = some (x, ps) := h
   obtain ⟨h1, h2⟩ := dec_ok (φ' := φ') hh hf (.ar n t) cs x ps h hp
   have hx : x.length = n := by
    have h : (if cs.length = n * t.sz then mapD (t.dec H) (chunkN t.sz n cs) else none) = some (x, ps) := h
    split at h
    ·rw [<- (mapD_get h).1, chunkN_length]
    ·cases h
   have e : Ty.enc (.ar n t) x = x.flatMap t.enc := by show (padL n t.dflt x).flatMap t.enc = _; rw [padL_self hx]
   rw [e] at h1 h2
   refine Rep.toAr (.agg (by rw [hl, h1]) fun i v u hv hu => ?_)
   have hi : i < cs.length := by rw [h1]; exact (List.getElem?_eq_some_iff.1 hv).1
   obtain ⟨v', hv', hrv⟩ := h2 i _ (List.getElem?_eq_getElem hi)
   rw [hv] at hv'; injection hv' with hv'; subst hv'
   exact hrv u (hr i _ u (List.getElem?_eq_getElem hi) hu)
  | ar hr =>
   rename_i t' xs us
   have h : (if h : t' = t then some (castL h xs, [decide (xs.length = n)]) else none) = some (x, ps) := h
   split at h
   ·rename_i ht
    subst ht
    simp only [Option.some.injEq, Prod.mk.injEq] at h
    obtain ⟨rfl, rfl⟩ := h
    exact val_free hf.1 (.ar n t') xs (Rep.toAr hr)
   ·cases h
  | _ => simp [Ty.decV] at h
theorem decVs_ok (hh : OwnR Z φ H w) (hf : Froze φ H w Z Z') : ∀ (ts : List Ty) (vs : List AV) (x : dens ts) (ps : List Bool), decVs H ts vs = some (x, ps) -> (∀ p ∈ ps, p = true) -> ∀ us : Array Value, Reps Z φ vs us -> Reps Z' φ' (vals ts x) us
 | [], [], x, ps, h, hp, us, hr => ⟨hr.1, fun i v u hv => by simp [vals] at hv⟩
 | [], _ :: _, x, ps, h, hp, us, hr => by simp [decVs] at h
 | _ :: _, [], x, ps, h, hp, us, hr => by simp [decVs] at h
 | t :: ts, v :: vs, x, ps, h, hp, us, hr => by
  simp only [decVs] at h
  unfold pairD at h
  split at h
  ·rename_i y q hy
   split at h
   ·rename_i z r hz
    simp only [Option.some.injEq, Prod.mk.injEq] at h
    obtain ⟨rfl, rfl⟩ := h
    have hsz := hr.1
    simp only [List.length_cons] at hsz
    have tail := decVs_ok hh hf ts vs z r hz (fun p hp' => hp p (List.mem_append_right _ hp')) (us.toList.tail.toArray) ⟨by simp [hsz], fun i v u hv hu => hr.2 (i + 1) v u (by simpa using hv) (by
     rw [List.getElem?_toArray, List.getElem?_tail, Array.getElem?_toList] at hu; exact hu)⟩
    refine ⟨by have := tail.1; simp [hsz] at this; simp [vals, hsz, this], fun i v' u hv hu => ?_⟩
    cases i with
    | zero =>
     simp only [vals, List.getElem?_cons_zero, Option.some.injEq] at hv
     subst hv
     exact decV_ok hh hf hy (fun p hp' => hp p (List.mem_append_left _ hp')) (hr.2 0 v u rfl hu)
    | succ i =>
     refine tail.2 i v' u (by simpa [vals] using hv) ?_
     rw [List.getElem?_toArray, List.getElem?_tail, Array.getElem?_toList]; exact hu
   ·cases h
  ·cases h
inductive AT where
 | v (t : Ty)
 | ref (t : Ty)
 | clo (k : Nat) (first cap : List (Bool × Ty))
abbrev denP : List (Bool × Ty) -> Type
 | [] => Unit
 | p :: l => p.2.den × denP l
abbrev AT.den : AT -> Type
 | .v t => t.den
 | .ref t => t.den
 | .clo _ f c => denP f × denP c
def valP (b : Bool) (t : Ty) (x : t.den) : AV := match b with
 | false => t.val x
 | true => .rp (t.enc x) 0
def valPs : (l : List (Bool × Ty)) -> denP l -> List AV
 | [], _ => []
 | p :: l, x => valP p.1 p.2 x.1 :: valPs l x.2
def AT.val : (a : AT) -> a.den -> AV
 | .v t, x => t.val x
 | .ref t, x => .rp (t.enc x) 0
 | .clo k f c, x => .fn (.func k) (valPs f x.1) (valPs c x.2)
def decRef (H : Heap) (t : Ty) (v : AV) : Option (t.den × List Bool) :=
 match v with
 | .ptr b 0 0 => match H.get b with
  | some (.row _ [cs]) => t.dec H cs
  | _ => none
 | .rp e 0 => t.dec H e
 | _ => none
def decP (H : Heap) (b : Bool) (t : Ty) (v : AV) : Option (t.den × List Bool) := match b with
 | false => t.decV H v
 | true => decRef H t v
def decPs (H : Heap) : (l : List (Bool × Ty)) -> List AV -> Option (denP l × List Bool)
 | [], [] => some ((), [])
 | p :: l, v :: vs => pairD (decP H p.1 p.2 v) (decPs H l vs)
 | _, _ => none
def AT.dec (H : Heap) : (a : AT) -> AV -> Option (a.den × List Bool)
 | .v t, y => t.decV H y
 | .ref t, y => decRef H t y
 | .clo k f c, y => match y with
  | .fn (.func k') a b => if k = k' then pairD (decPs H f a) (decPs H c b) else none
  | _ => none
abbrev densA : List AT -> Type
 | [] => Unit
 | t :: ts => t.den × densA ts
def valsA : (ts : List AT) -> densA ts -> List AV
 | [], _ => []
 | t :: ts, x => t.val x.1 :: valsA ts x.2
def decAs (H : Heap) : (ts : List AT) -> List AV -> Option (densA ts × List Bool)
 | [], [] => some ((), [])
 | t :: ts, y :: vs => pairD (t.dec H y) (decAs H ts vs)
 | _, _ => none
theorem decRef_ok (hh : OwnR Z φ H w) (hf : Froze φ H w Z Z') {t : Ty} {v : AV} {x : t.den} {ps : List Bool} (h : decRef H t v = some (x, ps)) (hp : ∀ p ∈ ps, p = true) {u : Value} (hv : Rep Z φ v u) : Rep Z' φ' (.rp (t.enc x) 0) u := by
 unfold decRef at h
 split at h
 ·rename_i b
  split at h
  ·rename_i s cs hb
   cases hv with
   | ptr hl =>
    rename_i l
    have hr : rowRel Z φ w l s [cs] := hh _ _ _ hb hl
    obtain ⟨r1, r2, c, T, fz, r3, r4, r5, r6⟩ := hr
    have hw := dec_ok (φ' := φ') hh hf t cs x ps h hp
    obtain ⟨g1, g2, g3⟩ := r6 0 cs rfl
    have hZ' : Z' l.B = some (.cells c T fz) := by rw [hf.2 b _ l hb hl, r3]
    have cell : ∀ (j : Nat) (v : AV), (t.enc x)[j]? = some v -> ∃ u, c[l.ob + j]? = some u /\ Rep Z' φ' v u := by
     intro j v hj
     have hjl : j < cs.length := by rw [hw.1]; exact (List.getElem?_eq_some_iff.1 hj).1
     obtain ⟨v', hv', hr'⟩ := hw.2 j _ (List.getElem?_eq_getElem hjl)
     rw [hj] at hv'; injection hv' with hv'; subst hv'
     obtain ⟨u, hu, hru⟩ := g3 j _ (List.getElem?_eq_getElem hjl)
     exact ⟨u, by simpa using hu, hr' u hru⟩
    have := Rep.rp (Z := Z') (φ := φ') (e := t.enc x) (o := 0) (B := l.B) (off := l.ob) (fun j => c.getD (l.ob + j) Go.undef) (fun j v hj => by
     obtain ⟨u, hu, _⟩ := cell j v hj
     unfold zcell; rw [hZ']; simp only; rw [hu]; simp [Array.getD_eq_getD_getElem?, hu]) (fun j v hj => by
     obtain ⟨u, hu, hr⟩ := cell j v hj
     simpa [Array.getD_eq_getD_getElem?, hu] using hr)
    simpa using this
  ·cases h
 ·rename_i e
  cases hv with
  | rp us h1 h2 =>
   have hw := dec_ok (φ' := φ') hh hf t e x ps h hp
   have cell : ∀ (j : Nat) (v : AV), (t.enc x)[j]? = some v -> ∃ v', e[j]? = some v' /\ Rep Z' φ' v (us j) := by
    intro j v hj
    have hjl : j < e.length := by rw [hw.1]; exact (List.getElem?_eq_some_iff.1 hj).1
    obtain ⟨v', hv', hr'⟩ := hw.2 j _ (List.getElem?_eq_getElem hjl)
    rw [hj] at hv'; injection hv' with hv'; subst hv'
    exact ⟨_, List.getElem?_eq_getElem hjl, hr' _ (h2 j _ (List.getElem?_eq_getElem hjl))⟩
   exact .rp us (fun j v hj => let ⟨v', hv', _⟩ := cell j v hj; zcell_mono hf.1 (h1 j v' hv')) fun j v hj => (let ⟨_, _, hr⟩ := cell j v hj; hr)
 ·cases h
theorem reps_cons {v : AV} {vs : List AV} {us : Array Value} (h : Reps Z φ (v :: vs) us) : ∃ u ws, us = #[u] ++ ws /\ Rep Z φ v u /\ Reps Z φ vs ws := by
 have hsz := h.1
 simp only [List.length_cons] at hsz
 have h0 : 0 < us.size := by omega
 refine ⟨us[0], us.toList.tail.toArray, ?_, h.2 0 v _ rfl (Array.getElem?_eq_getElem h0), by simp [hsz], fun i x u hx hu => h.2 (i + 1) x u (by simpa using hx) (by
  rw [List.getElem?_toArray, List.getElem?_tail, Array.getElem?_toList] at hu; exact hu)⟩
 apply Array.ext'
 cases hl : us.toList with
 | nil => rw [<- Array.length_toList, hl] at hsz; cases hsz
 | cons a l =>
  have : us[0] = a := by
   have h1 : us.toList[0]? = some a := by rw [hl]; rfl
   rw [Array.getElem?_toList, Array.getElem?_eq_getElem h0] at h1
   injection h1
  simp [this]
theorem reps_cons_mk {v : AV} {vs : List AV} {u : Value} {ws : Array Value} (h1 : Rep Z φ v u) (h2 : Reps Z φ vs ws) : Reps Z φ (v :: vs) (#[u] ++ ws) := by
 have h3 := h2.1
 refine ⟨by rw [Array.size_append]; simp only [List.length_cons]; have : (#[u] : Array Value).size = 1 := rfl; omega, fun i x y hx hy => ?_⟩
 rw [Array.getElem?_append] at hy
 cases i with
 | zero =>
  have hy : some u = some y := hy
  have hx : some v = some x := hx
  injection hx with hx; injection hy with hy
  subst hx hy; exact h1
 | succ i =>
  rw [if_neg (by show ¬ i + 1 < 1; omega)] at hy
  exact h2.2 i x y hx hy
theorem pairD_some {α β : Type} {x : Option (α × List Bool)} {y : Option (β × List Bool)} {r : α × β} {ps : List Bool} (h : pairD x y = some (r, ps)) (hp : ∀ p ∈ ps, p = true) : ∃ p q, x = some (r.1, p) /\ y = some (r.2, q) /\ (∀ b ∈ p, b = true) /\ ∀ b ∈ q, b = true := by
 cases x with
 | none => cases h
 | some x => cases y with
  | none => cases h
  | some y =>
   obtain ⟨a, p⟩ := x
   obtain ⟨b, q⟩ := y
   simp only [pairD, Option.some.injEq, Prod.mk.injEq] at h
   obtain ⟨rfl, rfl⟩ := h
   exact ⟨p, q, rfl, rfl, fun b hb => hp b (List.mem_append_left _ hb), fun b hb => hp b (List.mem_append_right _ hb)⟩
theorem decPs_ok (hh : OwnR Z φ H w) (hf : Froze φ H w Z Z') : ∀ (l : List (Bool × Ty)) (vs : List AV) (x : denP l) (ps : List Bool), decPs H l vs = some (x, ps) -> (∀ p ∈ ps, p = true) -> ∀ us : Array Value, Reps Z φ vs us -> Reps Z' φ' (valPs l x) us
 | [], [], x, ps, h, hp, us, hr => ⟨hr.1, fun i v u hv => by simp [valPs] at hv⟩
 | [], _ :: _, x, ps, h, hp, us, hr => by simp [decPs] at h
 | _ :: _, [], x, ps, h, hp, us, hr => by simp [decPs] at h
 | p :: l, v :: vs, x, ps, h, hp, us, hr => by
  obtain ⟨q, r, h1, h2, k1, k2⟩ := pairD_some (show pairD _ _ = some (x, ps) from h) hp
  obtain ⟨u, ws, rfl, hu, hws⟩ := reps_cons hr
  refine reps_cons_mk ?_ (decPs_ok hh hf l vs x.2 r h2 k2 ws hws)
  obtain ⟨b, t⟩ := p
  cases b with
  | false => exact decV_ok hh hf (show t.decV H v = some _ from h1) k1 hu
  | true => exact decRef_ok hh hf (show decRef H t v = some _ from h1) k1 hu
theorem decA_ok (hh : OwnR Z φ H w) (hf : Froze φ H w Z Z') {a : AT} {v : AV} {x : a.den} {ps : List Bool} (h : a.dec H v = some (x, ps)) (hp : ∀ p ∈ ps, p = true) {u : Value} (hv : Rep Z φ v u) : Rep Z' φ' (a.val x) u := by
 cases a with
 | v t => exact decV_ok hh hf (show t.decV H v = some _ from h) hp hv
 | ref t => exact decRef_ok hh hf (show decRef H t v = some _ from h) hp hv
 | clo k f c =>
  simp only [AT.dec] at h
  split at h
  ·rename_i k' as bs
   split at h
   ·rename_i hk
    subst hk
    obtain ⟨q, r, h1, h2, k1, k2⟩ := pairD_some h hp
    cases hv with
    | fn hx hy g1 g2 =>
     have q1 := decPs_ok (φ' := φ') hh hf f as x.1 q h1 k1 _ ⟨hx, g1⟩
     have q2 := decPs_ok (φ' := φ') hh hf c bs x.2 r h2 k2 _ ⟨hy, g2⟩
     exact .fn q1.1 q2.1 q1.2 q2.2
   ·cases h
  ·cases h
theorem decAs_ok (hh : OwnR Z φ H w) (hf : Froze φ H w Z Z') : ∀ (ts : List AT) (vs : List AV) (x : densA ts) (ps : List Bool), decAs H ts vs = some (x, ps) -> (∀ p ∈ ps, p = true) -> ∀ us : Array Value, Reps Z φ vs us -> Reps Z' φ' (valsA ts x) us
 | [], [], x, ps, h, hp, us, hr => ⟨hr.1, fun i v u hv => by simp [valsA] at hv⟩
 | [], _ :: _, x, ps, h, hp, us, hr => by simp [decAs] at h
 | _ :: _, [], x, ps, h, hp, us, hr => by simp [decAs] at h
 | t :: ts, v :: vs, x, ps, h, hp, us, hr => by
  obtain ⟨q, r, h1, h2, k1, k2⟩ := pairD_some (show pairD _ _ = some (x, ps) from h) hp
  obtain ⟨u, ws, rfl, hu, hws⟩ := reps_cons hr
  exact reps_cons_mk (decA_ok hh hf h1 k1 hu) (decAs_ok hh hf ts vs x.2 r h2 k2 ws hws)
end
end Go.Lom

/- Operations that make or write lists of typed contents: what they leave, with the conditions. -/
namespace Go.Lom
open Go.RowKit
def prs : List (Option Ty) -> Option Ty
 | [] => none
 | [x] => x
 | x :: y :: l => match x with
  | some a => match prs (y :: l) with
   | some b => some (.pr a b)
   | none => none
  | none => none
def tyOf (P : Program) : Nat -> TypeId -> Option Ty
 | 0, _ => none
 | d + 1, t => match P.underlying t with
  | some (.int k) => some (.i k)
  | some .bool => some .b
  | some .string => some .s
  | some (.slice e) => (tyOf P d e).map .sl
  | some (.struct fs) => prs (fs.toList.map fun f => tyOf P d f.type)
  | some (.array n e) => match Nat.ble n chainMax with
   | true => prs (List.replicate n (tyOf P d e))
   | false => (tyOf P d e).map (.ar n)
  | _ => none
def fitsN (n b : Nat) : Bool := Nat.ble (n * b) 140737488355328 && Nat.ble n maxLen
section
variable {P : Program} {base : Nat -> Prop} {w0 : Start} {Z Z' : ZMap} {φ φ' : PMap} {H : Heap} {nx : Nat} {w : World}
theorem froze_nil (Z : ZMap) (φ : PMap) (w : World) : Froze φ [] w Z Z := ⟨ZLe.refl _, fun b x l h => by simp [Heap.get] at h⟩
def WeakS (cs cs' : List AV) : Prop := ∀ Z φ, WeakC Z Z φ φ cs cs'
theorem WeakS.refl (cs : List AV) : WeakS cs cs := fun _ _ => ⟨rfl, fun j v hj => ⟨v, hj, fun u hu => hu⟩⟩
def someWorld : World := default
theorem dec_weak {t : Ty} {cs : List AV} {x : t.den} {ps : List Bool} (h : t.dec [] cs = some (x, ps)) (hp : ∀ p ∈ ps, p) : WeakS cs (t.enc x) :=
 fun Z φ => dec_ok (w := someWorld) (fun b blk l h => by simp [Heap.get] at h) (froze_nil Z φ someWorld) t cs x ps h hp
theorem rowRel_weak {l : Loc} {s : Nat} {t : Ty} {es : List (List AV)} {xs : List t.den} (h : rowRel Z φ w l s es) (hs : s = t.sz) (hl : xs.length = es.length)
  (hw : ∀ (i : Nat) (e : List AV), es[i]? = some e -> ∃ x, xs[i]? = some x /\ WeakS e (t.enc x)) : rowRel Z φ w l t.sz (xs.map t.enc) := by
 obtain ⟨h1, h2, c, T, fz, h3, h4, h5, h6⟩ := h
 refine ⟨by rw [<- hs, h1], by simp; omega, c, T, fz, h3, h4, h5, fun i e hi => ?_⟩
 have hil : i < es.length := by have := (List.getElem?_eq_some_iff.1 hi).1; simp at this; omega
 obtain ⟨x, hx, hwk⟩ := hw i _ (List.getElem?_eq_getElem hil)
 have hwk := hwk Z φ
 rw [List.getElem?_map, hx] at hi
 simp only [Option.map_some, Option.some.injEq] at hi
 subst hi
 obtain ⟨g1, g2, g3⟩ := h6 i _ (List.getElem?_eq_getElem hil)
 refine ⟨by rw [<- hwk.1]; exact g1, t.enc_oneC x, fun j v hj => ?_⟩
 have hjl : j < es[i].length := by rw [hwk.1]; exact (List.getElem?_eq_some_iff.1 hj).1
 obtain ⟨u, hu, hr⟩ := g3 j _ (List.getElem?_eq_getElem hjl)
 obtain ⟨v', hv', hr'⟩ := hwk.2 j _ (List.getElem?_eq_getElem hjl)
 rw [hj] at hv'; injection hv' with hv'; subst hv'
 exact ⟨u, hu, hr' u hr⟩
theorem HRel.retype {b : Nat} {x y : Blk} (h : HRel base w0 Z φ (H.set b x) nx w) (hg : x.ghost = false) (hx : ∀ l, blkRel Z φ w l x -> blkRel Z φ w l y) : HRel base w0 Z φ (H.set b y) nx w := by
 have look : ∀ c z, (H.set b y).get c = some z -> ∃ z', (H.set b x).get c = some z' /\ ((c = b /\ z = y /\ z' = x) \/ (c ≠ b /\ z = z')) := by
  intro c z hz
  rw [Heap.get_set] at hz ⊢
  by_cases e : c = b
  ·rw [if_pos e] at hz ⊢; injection hz with hz; exact ⟨x, rfl, .inl ⟨e, hz.symm, rfl⟩⟩
  ·rw [if_neg e] at hz ⊢; exact ⟨z, hz, .inr ⟨e, rfl⟩⟩
 refine ⟨h.below, h.z, h.z0, h.gl, h.fnx, fun c z hz => let ⟨z', h1, _⟩ := look c z hz; h.hnx c z' h1, h.flt, fun c z hz => ?_, fun c c' z z' l l' hne hz hz' hl hl' => ?_, fun c z l hz hl hu => ?_⟩
 ·obtain ⟨z', h1, h2⟩ := look c z hz
  rcases h2 with ⟨rfl, rfl, rfl⟩ | ⟨hne, rfl⟩
  ·obtain ⟨l, hl, hzl, hr⟩ := h.own c z' h1 hg
   exact .inr ⟨l, hl, hzl, hx l hr⟩
  ·exact h.own' c z h1
 ·obtain ⟨y1, h1, _⟩ := look c z hz
  obtain ⟨y2, h2, _⟩ := look c' z' hz'
  exact h.inj c c' y1 y2 l l' hne h1 h2 hl hl'
 ·obtain ⟨y1, h1, _⟩ := look c z hz
  exact h.ob c y1 l h1 hl hu
theorem elemsD_rows {t : Ty} {y : AV} {ys : List t.den} {ps : List Bool} (h : elemsD H t (t.dec []) y = some (ys, ps)) (hp : ∀ p ∈ ps, p) :
  ∃ news, elems H y = some news /\ news.length = ys.length /\ ∀ (i : Nat) (e : List AV), news[i]? = some e -> ∃ x, ys[i]? = some x /\ WeakS e (t.enc x) := by
 have rows : ∀ (es : List (List AV)) (ys : List t.den) (qs : List Bool), mapD (t.dec []) es = some (ys, qs) -> (∀ q ∈ qs, q = true) -> es.length = ys.length /\ ∀ (i : Nat) (e : List AV), es[i]? = some e -> ∃ x, ys[i]? = some x /\ WeakS e (t.enc x) := by
  intro es ys qs hm hq
  obtain ⟨h1, h2⟩ := mapD_get hm
  exact ⟨h1, fun i e hi => let ⟨x, p, hx, hd, hs⟩ := h2 i e hi; ⟨x, hx, dec_weak hd fun q hq' => hq q (hs q hq')⟩⟩
 have encs : ∀ (zs : List t.den) (i : Nat) (e : List AV), (zs.map t.enc)[i]? = some e -> ∃ x, zs[i]? = some x /\ WeakS e (t.enc x) := by
  intro zs i e hi
  rw [List.getElem?_map] at hi
  cases hx : zs[i]? with
  | none => rw [hx] at hi; cases hi
  | some x => rw [hx] at hi; injection hi with hi; subst hi; exact ⟨x, rfl, WeakS.refl _⟩
 unfold elemsD at h
 split at h
 ·simp only [Option.some.injEq, Prod.mk.injEq] at h; obtain ⟨rfl, rfl⟩ := h
  exact ⟨[], rfl, rfl, fun i e hi => by simp at hi⟩
 ·simp only [Option.some.injEq, Prod.mk.injEq] at h; obtain ⟨rfl, rfl⟩ := h
  exact ⟨[], rfl, rfl, fun i e hi => by simp at hi⟩
 ·split at h
  ·rename_i ht
   subst ht
   simp only [Option.some.injEq, Prod.mk.injEq] at h; obtain ⟨rfl, rfl⟩ := h
   exact ⟨_, rfl, by simp [castL_self], encs _⟩
  ·cases h
 ·obtain ⟨h1, h2⟩ := rows _ _ _ h hp
  exact ⟨_, rfl, h1, h2⟩
 ·rename_i b s off len cap
  split at h
  ·split at h
   ·rename_i t' xs hb
    split at h
    ·rename_i ht
     subst ht
     simp only [Option.some.injEq, Prod.mk.injEq] at h; obtain ⟨rfl, rfl⟩ := h
     have hle : off + len <= xs.length := of_decide_eq_true (hp _ (List.mem_singleton.2 rfl))
     refine ⟨(seg off len xs).map t'.enc, ?_, by simp [castL_self], encs _⟩
     simp [elems, hb, asRow, seg, hle, List.map_take, List.map_drop]
    ·cases h
   ·rename_i s' es hb
    split at h
    ·rename_i hle
     obtain ⟨h1, h2⟩ := rows _ _ _ h hp
     exact ⟨_, by simp [elems, hb, asRow, seg, hle], h1, h2⟩
    ·cases h
   ·cases h
  ·cases h
 ·cases h
theorem row_shift {l : Loc} {s off len : Nat} {es : List (List AV)} (h : rowRel Z φ w l s es) (ho : off + len <= es.length) : rowRel Z φ w ⟨l.B, l.ob + off * l.s, l.s, l.lim - off⟩ s (seg off len es) := by
 obtain ⟨h1, h2, c, T, fz, h3, h4, h5, h6⟩ := h
 refine ⟨h1, by simp [seg]; omega, c, T, fz, h3, ?_, h5, fun i e hi => ?_⟩
 ·have : off * l.s + (l.lim - off) * l.s = l.lim * l.s := by rw [<- Nat.add_mul]; congr 1; omega
  simp only; omega
 ·have hil : i < len := by have := (List.getElem?_eq_some_iff.1 hi).1; simp [seg] at this; omega
  have : (seg off len es)[i]? = es[off + i]? := by simp [seg, List.getElem?_take, hil]
  rw [this] at hi
  obtain ⟨g1, g2, g3⟩ := h6 _ _ hi
  refine ⟨g1, g2, fun j v hj => ?_⟩
  obtain ⟨u, hu, hr⟩ := g3 j v hj
  refine ⟨u, ?_, hr⟩
  have e1 : l.ob + off * l.s + i * l.s + j = l.ob + (off + i) * l.s + j := by rw [Nat.add_mul]; omega
  simp only
  rw [e1]; exact hu
theorem rowRel_mono {l : Loc} {s : Nat} {es : List (List AV)} (hφ : PLe φ φ') (h : rowRel Z φ w l s es) : rowRel Z φ' w l s es :=
 (show blkRel Z φ w l (.row s es) from h).mono (ZLe.refl _) hφ rfl
theorem HRel.ghostNew (h : HRel base w0 Z φ H nx w) (t : Ty) : HRel base w0 Z φ (H.set nx (.lst t [])) (nx + 1) w := by
 have hfr := h.fresh (Nat.le_refl nx)
 have look : ∀ c z, (H.set nx (.lst t [])).get c = some z -> (c = nx /\ z = .lst t []) \/ (c ≠ nx /\ H.get c = some z) := by
  intro c z hz
  rw [Heap.get_set] at hz
  by_cases e : c = nx
  ·rw [if_pos e] at hz; injection hz with hz; exact .inl ⟨e, hz.symm⟩
  ·rw [if_neg e] at hz; exact .inr ⟨e, hz⟩
 refine ⟨h.below, h.z, h.z0, h.gl, fun b x hb => Nat.lt_succ_of_lt (h.fnx b x hb), fun c z hz => ?_, h.flt, fun c z hz => ?_, fun c c' z z' l l' hne hz hz' hl hl' => ?_, fun c z l hz hl hu => ?_⟩
 ·rcases look c z hz with ⟨rfl, _⟩ | ⟨_, h1⟩
  ·exact Nat.lt_succ_self _
  ·exact Nat.lt_succ_of_lt (h.hnx c z h1)
 ·rcases look c z hz with ⟨rfl, rfl⟩ | ⟨_, h1⟩
  ·exact .inl ⟨rfl, hfr⟩
  ·exact h.own' c z h1
 ·rcases look c z hz with ⟨rfl, _⟩ | ⟨_, h1⟩
  ·rw [hfr] at hl; cases hl
  ·rcases look c' z' hz' with ⟨rfl, _⟩ | ⟨_, h2⟩
   ·rw [hfr] at hl'; cases hl'
   ·exact h.inj c c' z z' l l' hne h1 h2 hl hl'
 ·rcases look c z hz with ⟨rfl, _⟩ | ⟨_, h1⟩
  ·rw [hfr] at hl; cases hl
  ·exact h.ob c z l h1 hl hu
theorem sub_del (H : Heap) (b : Nat) : Sub (H.del b) H := fun c x h => by
 rw [Heap.get_del] at h
 split at h
 ·cases h
 ·exact h
theorem HRel.rename (hh : HRel base w0 Z φ H nx w) {b s off len : Nat} {cap : Option Nat} {t : Ty} {blk : Blk} {es : List (List AV)} {xs : List t.den} {v : Value} (hb : H.get b = some blk) (hrow : asRow blk = some (s, es)) (hs : s = t.sz) (hle : off + len <= es.length)
  (hx : xs.length = len) (hw : ∀ (i : Nat) (e : List AV), (seg off len es)[i]? = some e -> ∃ x, xs[i]? = some x /\ WeakS e (t.enc x)) (hv : Rep Z φ (.sl b s off len cap) v) :
  ∃ φ', PLe φ φ' /\ Rep Z φ' (.sl nx t.sz 0 len none) v /\ HRel base w0 Z φ' ((H.del b).set nx (.lst t xs)) (nx + 1) w := by
 have zero : len = 0 -> ∀ ao, v = .slice ao 0 0 -> ∃ φ', PLe φ φ' /\ Rep Z φ' (.sl nx t.sz 0 len none) v /\ HRel base w0 Z φ' ((H.del b).set nx (.lst t xs)) (nx + 1) w := by
  intro h0 ao hv0
  subst hv0
  have hx0 : xs = [] := List.eq_nil_of_length_eq_zero (by omega)
  rw [hx0, h0]
  refine ⟨φ, PLe.refl _, ?_, (hh.sub (sub_del H b)).ghostNew t⟩
  cases ao with
  | none => exact .sl0n (Nat.le_refl 0)
  | some a => exact .sl0s (cap := none) (Nat.le_refl 0) a
 cases hv with
 | sl0n hc => exact zero rfl _ rfl
 | sl0s hc a => exact zero rfl _ rfl
 | sl hl hls hc hlc hlm ha =>
  rename_i c l a
  obtain ⟨_, hr⟩ := hh.rowOf hb hrow hl
  have hseg : (seg off len es).length = len := by simp [seg]; omega
  have hr2 := rowRel_weak (row_shift hr hle) hs (by omega) hw
  have hle2 := PMap.le_set (x := ⟨l.B, l.ob + off * l.s, l.s, l.lim - off⟩) (hh.fresh (Nat.le_refl nx))
  refine ⟨φ.set nx ⟨l.B, l.ob + off * l.s, l.s, l.lim - off⟩, hle2, ?_, hh.adopt (c := nx) (Nat.le_refl _) hb hl (w' := w) rfl rfl rfl rfl (Nat.le_refl _) (fun _ _ _ => rfl) (rowRel_mono hle2 hr2)⟩
  refine .sl (PMap.set_self _ _ _) (by simp only; rw [hls, hs]) hlc hlc (by simp only; omega) ?_
  rcases ha with rfl | h0
  ·left; simp only [Nat.zero_mul, Nat.add_zero]; rw [hls]
  ·exact .inr h0
def appT (P : Program) (t : TypeId) (x y : AV) (H : Heap) (nx : Nat) : Option (Out × List Bool) :=
 match sliceElem P t with
 | none => none
 | some e => match tyOf P 8 e with
  | none => none
  | some τ => match szOf P e, bytesOf P e, zeroCellsOf P e, elemsD H τ (τ.dec []) y with
   | some s, some by_, some z, some (ys, ps) => if s = τ.sz /\ z.length = s then match x with
    | .nils | .emp => some ((.sl nx τ.sz 0 ys.length none, H.set nx (.lst τ ys), nx + 1), ps ++ [fitsN ys.length by_])
    | .sl b s' off len _ => if s' = τ.sz then match H.get b with
     | some (.lst τ' xs) => if h : τ' = τ then some ((.sl nx τ.sz 0 (len + ys.length) none, (H.del b).set nx (.lst τ (seg off len (castL h xs) ++ ys)), nx + 1), ps ++ [decide (off + len <= xs.length), fitsN (len + ys.length) by_]) else none
     | some (.row s4 es) => match mapD (τ.dec []) (seg off len es) with
      | some (xs, qs) => if off + len <= es.length /\ s4 = τ.sz then some ((.sl nx τ.sz 0 (len + ys.length) none, (H.del b).set nx (.lst τ (xs ++ ys)), nx + 1), ps ++ (qs ++ [fitsN (len + ys.length) by_])) else none
      | none => none
     | _ => none
     else none
    | _ => none
    else none
   | _, _, _, _ => none
theorem fitsA_of {e : TypeId} {s n b : Nat} {z : List AV} (h1 : szOf P e = some s) (h2 : bytesOf P e = some b) (h3 : zeroCellsOf P e = some z) (h4 : z.length = s) (h5 : fitsN n b = true) : fitsA P e s n = some () := by
 unfold fitsA
 simp only [fitsN, Bool.and_eq_true, Nat.ble_eq] at h5
 simp [h1, h2, h3, h4, h5.1, h5.2]
theorem rep_forget {b s off len : Nat} {cap : Option Nat} {v : Value} (h : Rep Z φ (.sl b s off len cap) v) : Rep Z φ (.sl b s off len none) v := by
 cases h with
 | sl hl hls hc hlc hlm ha => exact .sl hl hls hlc hlc hlm ha
 | sl0n hc => exact .sl0n (Nat.le_refl 0)
 | sl0s hc a => exact .sl0s (cap := none) (Nat.le_refl 0) a
theorem append_core (hh : HRel base w0 Z φ H nx w) {t ty : TypeId} {x y r : AV} {ux uy : Value} {H' : Heap} {nx' : Nat} {ps : List Bool} (hx : Rep Z φ x ux) (hy : Rep Z φ y uy) (hr : appT P t x y H nx = some ((r, H', nx'), ps)) (hp : ∀ p ∈ ps, p) :
  ValOk base w0 Z φ r H' nx' ((Builtin.append_ #[t, t] ty #[ux, uy]).run P w) := by
 unfold appT at hr
 split at hr
 ·cases hr
 rename_i e he
 split at hr
 ·cases hr
 rename_i τ hτ
 split at hr
 rotate_left
 ·cases hr
 rename_i s by_ z ys ps0 hs hby hz hys
 split at hr
 rotate_left
 ·cases hr
 rename_i hsz
 obtain ⟨hsz, hzl⟩ := hsz
 subst hsz
 have newsOf : (∀ p ∈ ps0, p = true) -> ∃ news, elems H y = some news /\ news.length = ys.length /\ (∀ (i : Nat) (e : List AV), news[i]? = some e -> ∃ x, ys[i]? = some x /\ WeakS e (τ.enc x)) /\ fitsS news τ.sz = true := by
  intro hp0
  obtain ⟨news, h1, h2, h3⟩ := elemsD_rows hys hp0
  refine ⟨news, h1, h2, h3, ?_⟩
  cases news with
  | nil => rfl
  | cons e0 l =>
   obtain ⟨x0, _, hw⟩ := h3 0 e0 rfl
   simp [fitsS, (hw (fun _ => none) (fun _ => none)).1, Ty.enc_length]
 have onNil : ∀ (x : AV) (v : Value), Rep Z φ x v -> (x = .nils \/ x = .emp) -> (∀ p ∈ ps0, p = true) -> fitsN ys.length by_ = true -> ValOk base w0 Z φ (.sl nx τ.sz 0 ys.length none) (H.set nx (.lst τ ys)) (nx + 1) ((Builtin.append_ #[t, t] ty #[v, uy]).run P w) := by
  intro x v hx hxx hp0 hfit
  obtain ⟨news, h1, h2, h3, h4⟩ := newsOf hp0
  by_cases hn : news = []
  ·have hap : aappend P t x y H nx = some (x, H, nx) := by
    unfold aappend
    rcases hxx with rfl | rfl <;> simp [he, hs, h1, hn, fitsS]
   obtain ⟨u, w', Z', φ', g1, g2, g3, g4, g5⟩ := sound_append (ty := ty) hh hx hy hap
   have hys0 : ys = [] := List.eq_nil_of_length_eq_zero (by rw [<- h2, hn]; rfl)
   subst hys0
   refine ⟨u, w', Z', φ', g1, ?_, g3, g4, g5.ghostNew τ⟩
   rcases hxx with rfl | rfl
   ·cases g2; exact .sl0n (Nat.le_refl 0)
   ·cases g2; exact .sl0s (cap := none) (Nat.le_refl 0) _
  ·have hfit' : fitsN news.length by_ = true := by rw [h2]; exact hfit
   have hap : aappend P t x y H nx = some (.sl nx τ.sz 0 news.length none, H.set nx (.row τ.sz news), nx + 1) := by
    unfold aappend
    rcases hxx with rfl | rfl <;> simp [he, hs, h1, hn, h4, fitsA_of hs hby hz hzl hfit']
   obtain ⟨u, w', Z', φ', g1, g2, g3, g4, g5⟩ := sound_append (ty := ty) hh hx hy hap
   rw [h2] at g2
   exact ⟨u, w', Z', φ', g1, g2, g3, g4, g5.retype rfl fun l hrow => rowRel_weak hrow rfl h2.symm h3⟩
 have onRow : ∀ (b off len : Nat) (cap : Option Nat) (blk : Blk) (es : List (List AV)) (xs : List τ.den), Rep Z φ (.sl b τ.sz off len cap) ux -> H.get b = some blk -> asRow blk = some (τ.sz, es) -> off + len <= es.length -> xs.length = len ->
   (∀ (i : Nat) (e : List AV), (seg off len es)[i]? = some e -> ∃ x, xs[i]? = some x /\ WeakS e (τ.enc x)) -> (∀ p ∈ ps0, p = true) -> fitsN (len + ys.length) by_ = true ->
   ValOk base w0 Z φ (.sl nx τ.sz 0 (len + ys.length) none) ((H.del b).set nx (.lst τ (xs ++ ys))) (nx + 1) ((Builtin.append_ #[t, t] ty #[ux, uy]).run P w) := by
  intro b off len cap blk es xs hx hb hrow hle hxl hxw hp0 hfit
  obtain ⟨news, h1, h2, h3, h4⟩ := newsOf hp0
  have hx := rep_forget hx
  by_cases hn : news = []
  ·have hap : aappend P t (.sl b τ.sz off len none) y H nx = some (.sl b τ.sz off len none, H, nx) := by
    unfold aappend
    simp [he, hs, h1, hn, fitsS]
   obtain ⟨u, w', Z', φ', g1, g2, g3, g4, g5⟩ := sound_append (ty := ty) hh hx hy hap
   have hys0 : ys = [] := List.eq_nil_of_length_eq_zero (by rw [<- h2, hn]; rfl)
   subst hys0
   obtain ⟨φ'', k1, k2, k3⟩ := g5.rename hb hrow rfl hle hxl hxw g2
   simp only [List.append_nil, List.length_nil, Nat.add_zero]
   exact ⟨u, w', Z', φ'', g1, k2, g3, g4.trans k1, k3⟩
  ·have hfit' : fitsN (len + news.length) by_ = true := by rw [h2]; exact hfit
   have hap : aappend P t (.sl b τ.sz off len none) y H nx = some (.sl nx τ.sz 0 (len + news.length) none, (H.del b).set nx (.row τ.sz (seg off len es ++ news)), nx + 1) := by
    unfold aappend
    have : ¬ es.length < off + len := by omega
    simp [he, hs, h1, hn, h4, hb, hrow, this, fitsA_of hs hby hz hzl hfit', seg]
   obtain ⟨u, w', Z', φ', g1, g2, g3, g4, g5⟩ := sound_append (ty := ty) hh hx hy hap
   rw [h2] at g2
   have hsegl : (seg off len es).length = len := by simp [seg]; omega
   refine ⟨u, w', Z', φ', g1, g2, g3, g4, g5.retype rfl fun l hrow => rowRel_weak hrow rfl (by simp [hsegl, hxl, h2]) fun i e hi => ?_⟩
   by_cases hil : i < len
   ·rw [List.getElem?_append_left (by omega)] at hi ⊢
    exact hxw i e hi
   ·rw [List.getElem?_append_right (by omega), hsegl] at hi
    rw [List.getElem?_append_right (by omega), hxl]
    exact h3 _ e hi
 split at hr
 ·simp only [Option.some.injEq, Prod.mk.injEq] at hr
  obtain ⟨⟨rfl, rfl, rfl⟩, rfl⟩ := hr
  exact onNil _ _ hx (.inl rfl) (fun p h => hp p (List.mem_append_left _ h)) (hp _ (List.mem_append_right _ (List.mem_singleton.2 rfl)))
 ·simp only [Option.some.injEq, Prod.mk.injEq] at hr
  obtain ⟨⟨rfl, rfl, rfl⟩, rfl⟩ := hr
  exact onNil _ _ hx (.inr rfl) (fun p h => hp p (List.mem_append_left _ h)) (hp _ (List.mem_append_right _ (List.mem_singleton.2 rfl)))
 ·rename_i b s' off len cap
  split at hr
  rotate_left
  ·cases hr
  rename_i hs'
  subst hs'
  split at hr
  ·rename_i τ' xs hb
   split at hr
   ·rename_i ht
    subst ht
    simp only [Option.some.injEq, Prod.mk.injEq] at hr
    obtain ⟨⟨rfl, rfl, rfl⟩, rfl⟩ := hr
    have hle : off + len <= xs.length := of_decide_eq_true (hp _ (List.mem_append_right _ (by simp)))
    have hfit : fitsN (len + ys.length) by_ = true := hp _ (List.mem_append_right _ (by simp))
    refine onRow b off len cap _ _ (seg off len (castL rfl xs)) hx hb rfl (by simpa using hle) (by simp [seg, castL_self]; omega) (fun i e hi => ?_) (fun p h => hp p (List.mem_append_left _ h)) hfit
    have e1 : seg off len (xs.map τ'.enc) = (seg off len xs).map τ'.enc := by simp [seg, List.map_take, List.map_drop]
    rw [e1, List.getElem?_map] at hi
    cases hy : (seg off len xs)[i]? with
    | none => rw [hy] at hi; cases hi
    | some y => rw [hy] at hi; injection hi with hi; subst hi; exact ⟨y, hy, WeakS.refl _⟩
   ·cases hr
  ·rename_i s4 es hb
   split at hr
   ·rename_i xs qs hm
    split at hr
    ·rename_i hc
     obtain ⟨hle, rfl⟩ := hc
     simp only [Option.some.injEq, Prod.mk.injEq] at hr
     obtain ⟨⟨rfl, rfl, rfl⟩, rfl⟩ := hr
     obtain ⟨k1, k2⟩ := mapD_get hm
     have hsegl : (seg off len es).length = len := by simp [seg]; omega
     have hfit : fitsN (len + ys.length) by_ = true := hp _ (by simp)
     exact onRow b off len cap _ es xs hx hb rfl hle (by omega) (fun i e hi => let ⟨x, p, hx, hd, hq⟩ := k2 i e hi; ⟨x, hx, dec_weak hd fun q hq' => hp q (by simp [hq q hq'])⟩) (fun p h => hp p (List.mem_append_left _ h)) hfit
    ·cases hr
   ·cases hr
  ·cases hr
 ·cases hr
def appF (P : Program) (t : TypeId) (x y : AV) (H : Heap) (nx : Nat) : Option (Out × Out × List Bool) :=
 match sliceElem P t with
 | none => none
 | some e => match tyOf P 8 e with
  | none => none
  | some τ => match szOf P e, bytesOf P e, zeroCellsOf P e, elemsD H τ (τ.dec []) y with
   | some s, some by_, some z, some (ys, ps) => if s = τ.sz /\ z.length = s then match x with
    | .sl b s' off len _ => if s' = τ.sz then match H.get b with
     | some (.lst τ' xs) => if h : τ' = τ then some ((.sl b τ.sz off (len + ys.length) none, H.set b (.lst τ ((castL h xs).take (off + len) ++ ys ++ (castL h xs).drop (off + len + ys.length))), nx), (.sl nx τ.sz 0 (len + ys.length) none, H.set nx (.lst τ (seg off len (castL h xs) ++ ys)), nx + 1), ps ++ [decide (off + len <= xs.length), Nat.blt 0 ys.length, fitsN (len + ys.length) by_]) else none
     | _ => none
     else none
    | _ => none
    else none
   | _, _, _, _ => none
theorem rep_cap {b s off len : Nat} {v : Value} (h : Rep Z φ (.sl b s off len none) v) : ∃ c, Rep Z φ (.sl b s off len (some c)) v := by
 cases h with
 | sl hl hls hc hlc hlm ha => exact ⟨_, .sl hl hls rfl hlc hlm ha⟩
 | sl0n hc => exact ⟨0, .sl0n rfl⟩
 | sl0s hc a => exact ⟨0, .sl0s (cap := some 0) rfl a⟩
theorem appendF_core (hh : HRel base w0 Z φ H nx w) {t ty : TypeId} {x y : AV} {ux uy : Value} {r1 r2 : Out} {ps : List Bool} (hx : Rep Z φ x ux) (hy : Rep Z φ y uy) (hr : appF P t x y H nx = some (r1, r2, ps)) (hp : ∀ p ∈ ps, p) :
  ValOk base w0 Z φ r1.1 r1.2.1 r1.2.2 ((Builtin.append_ #[t, t] ty #[ux, uy]).run P w) \/ ValOk base w0 Z φ r2.1 r2.2.1 r2.2.2 ((Builtin.append_ #[t, t] ty #[ux, uy]).run P w) := by
 unfold appF at hr
 split at hr
 ·cases hr
 rename_i e he
 split at hr
 ·cases hr
 rename_i τ hτ
 split at hr
 rotate_left
 ·cases hr
 rename_i s by_ z ys ps0 hs hby hz hys
 split at hr
 rotate_left
 ·cases hr
 rename_i hsz
 obtain ⟨hsz, hzl⟩ := hsz
 subst hsz
 split at hr
 rotate_left
 ·cases hr
 rename_i b s' off len cap
 split at hr
 rotate_left
 ·cases hr
 rename_i hs'
 subst hs'
 split at hr
 rotate_left
 ·cases hr
 rename_i τ' xs hb
 split at hr
 rotate_left
 ·cases hr
 rename_i ht
 subst ht
 simp only [Option.some.injEq, Prod.mk.injEq] at hr
 obtain ⟨rfl, rfl, rfl⟩ := hr
 have hle : off + len <= xs.length := of_decide_eq_true (hp _ (by simp))
 have hpos : 0 < ys.length := by
  have := hp (Nat.blt 0 ys.length) (by simp)
  have : 1 <= ys.length := by simpa [Nat.blt] using this
  omega
 have hfit : fitsN (len + ys.length) by_ = true := hp _ (by simp)
 have hp0 : ∀ p ∈ ps0, p = true := fun p h => hp p (List.mem_append_left _ h)
 obtain ⟨news, h1, h2, h3⟩ := elemsD_rows hys hp0
 have hn : news ≠ [] := fun e => by rw [e] at h2; simp at h2; omega
 have h4 : fitsS news τ'.sz = true := by
  cases news with
  | nil => rfl
  | cons e0 l =>
   obtain ⟨x0, _, hw⟩ := h3 0 e0 rfl
   simp [fitsS, (hw (fun _ => none) (fun _ => none)).1, Ty.enc_length]
 have hfit' : fitsN (len + news.length) by_ = true := by rw [h2]; exact hfit
 obtain ⟨c, hx⟩ := rep_cap (rep_forget hx)
 have hlt : ¬ xs.length < off + len := by omega
 by_cases hroom : len + news.length <= c
 ·left
  have hap : aappend P t (.sl b τ'.sz off len (some c)) y H nx = some (.sl b τ'.sz off (len + news.length) (some c), H.set b (.row τ'.sz ((xs.map τ'.enc).take (off + len) ++ news ++ (xs.map τ'.enc).drop (off + len + news.length))), nx) := by
   unfold aappend
   simp [he, hs, h1, hn, h4, hb, asRow, hlt, hroom]
  obtain ⟨u, w', Z', φ', g1, g2, g3, g4, g5⟩ := sound_append (ty := ty) hh hx hy hap
  rw [h2] at g2
  refine ⟨u, w', Z', φ', g1, rep_forget g2, g3, g4, g5.retype rfl fun l hrow => rowRel_weak hrow rfl (by simp [castL_self, h2]) fun i e hi => ?_⟩
  simp only [castL_self]
  have l1 : ((xs.map τ'.enc).take (off + len)).length = off + len := by simp; omega
  have l2 : (xs.take (off + len)).length = off + len := by simp; omega
  rw [List.append_assoc] at hi ⊢
  by_cases hil : i < off + len
  ·rw [List.getElem?_append_left (by omega), <- List.map_take, List.getElem?_map] at hi
   rw [List.getElem?_append_left (by omega)]
   cases hy : (xs.take (off + len))[i]? with
   | none => rw [hy] at hi; cases hi
   | some y => rw [hy] at hi; injection hi with hi; subst hi; exact ⟨y, rfl, WeakS.refl _⟩
  ·rw [List.getElem?_append_right (by omega), l1] at hi
   rw [List.getElem?_append_right (by omega), l2]
   generalize i - (off + len) = j at hi
   by_cases hj : j < news.length
   ·rw [List.getElem?_append_left hj] at hi
    rw [List.getElem?_append_left (by omega)]
    exact h3 j e hi
   ·rw [List.getElem?_append_right (by omega)] at hi
    rw [List.getElem?_append_right (by omega), <- h2]
    rw [<- List.map_drop, List.getElem?_map] at hi
    cases hy : (xs.drop (off + len + news.length))[j - news.length]? with
    | none => rw [hy] at hi; cases hi
    | some y => rw [hy] at hi; injection hi with hi; subst hi; exact ⟨y, rfl, WeakS.refl _⟩
 ·right
  have hap : aappend P t (.sl b τ'.sz off len (some c)) y H nx = some (.sl nx τ'.sz 0 (len + news.length) none, H.set nx (.row τ'.sz (((xs.map τ'.enc).drop off).take len ++ news)), nx + 1) := by
   unfold aappend
   simp [he, hs, h1, hn, h4, hb, asRow, hlt, hroom, fitsA_of hs hby hz hzl hfit']
  obtain ⟨u, w', Z', φ', g1, g2, g3, g4, g5⟩ := sound_append (ty := ty) hh hx hy hap
  rw [h2] at g2
  have hsegl : (seg off len xs).length = len := by simp [seg]; omega
  refine ⟨u, w', Z', φ', g1, g2, g3, g4, g5.retype rfl fun l hrow => rowRel_weak hrow rfl (by simp [castL_self, seg, h2]) fun i e hi => ?_⟩
  have e1 : ((xs.map τ'.enc).drop off).take len = (seg off len xs).map τ'.enc := by simp [seg, List.map_take, List.map_drop]
  rw [e1] at hi
  simp only [castL_self]
  by_cases hil : i < len
  ·rw [List.getElem?_append_left (by simp [hsegl]; omega), List.getElem?_map] at hi
   rw [List.getElem?_append_left (by omega)]
   cases hy : (seg off len xs)[i]? with
   | none => rw [hy] at hi; cases hi
   | some y => rw [hy] at hi; injection hi with hi; subst hi; exact ⟨y, rfl, WeakS.refl _⟩
  ·rw [List.getElem?_append_right (by simp [hsegl]; omega), List.length_map, hsegl] at hi
   rw [List.getElem?_append_right (by omega), hsegl]
   exact h3 _ e hi
theorem set_sub {H : Heap} {b : Nat} {x : Blk} (h : H.get b = some x) : Sub (H.set b x) H := fun c y hc => by
 rw [Heap.get_set] at hc
 split at hc
 ·rename_i e; injection hc with hc; subst hc; rw [e]; exact h
 ·exact hc
def appI (P : Program) (t : TypeId) (x y : AV) (H : Heap) (nx : Nat) : Option (Out × List Bool) :=
 match sliceElem P t with
 | none => none
 | some e => match tyOf P 8 e with
  | none => none
  | some τ => match szOf P e, elemsD H τ (τ.dec []) y with
   | some s, some (ys, ps) => if s = τ.sz then match x with
    | .sl b s' off len (some c) => if s' = τ.sz then match H.get b with
     | some (.lst τ' xs) => if h : τ' = τ then some ((.sl b τ.sz off (len + ys.length) (some c), H.set b (.lst τ ((castL h xs).take (off + len) ++ ys ++ (castL h xs).drop (off + len + ys.length))), nx), ps ++ [decide (off + len <= xs.length), decide (len + ys.length <= c)]) else none
     | _ => none
     else none
    | _ => none
    else none
   | _, _ => none
theorem appI_core (hh : HRel base w0 Z φ H nx w) {t ty : TypeId} {x y : AV} {ux uy : Value} {r1 : Out} {ps : List Bool} (hx : Rep Z φ x ux) (hy : Rep Z φ y uy) (hr : appI P t x y H nx = some (r1, ps)) (hp : ∀ p ∈ ps, p) :
  ValOk base w0 Z φ r1.1 r1.2.1 r1.2.2 ((Builtin.append_ #[t, t] ty #[ux, uy]).run P w) := by
 unfold appI at hr
 split at hr
 ·cases hr
 rename_i e he
 split at hr
 ·cases hr
 rename_i τ hτ
 split at hr
 rotate_left
 ·cases hr
 rename_i s ys ps0 hs hys
 split at hr
 rotate_left
 ·cases hr
 rename_i hsz
 subst hsz
 split at hr
 rotate_left
 ·cases hr
 rename_i b s' off len c
 split at hr
 rotate_left
 ·cases hr
 rename_i hs'
 subst hs'
 split at hr
 rotate_left
 ·cases hr
 rename_i τ' xs hb
 split at hr
 rotate_left
 ·cases hr
 rename_i ht
 subst ht
 simp only [Option.some.injEq, Prod.mk.injEq] at hr
 obtain ⟨rfl, rfl⟩ := hr
 have hle : off + len <= xs.length := of_decide_eq_true (hp _ (by simp))
 have hroom0 : len + ys.length <= c := of_decide_eq_true (hp (decide (len + ys.length <= c)) (by simp))
 have hp0 : ∀ p ∈ ps0, p = true := fun p h => hp p (List.mem_append_left _ h)
 obtain ⟨news, h1, h2, h3⟩ := elemsD_rows hys hp0
 have h4 : fitsS news τ'.sz = true := by
  cases news with
  | nil => rfl
  | cons e0 l =>
   obtain ⟨x0, _, hw⟩ := h3 0 e0 rfl
   simp [fitsS, (hw (fun _ => none) (fun _ => none)).1, Ty.enc_length]
 have hroom : len + news.length <= c := by rw [h2]; exact hroom0
 have hlt : ¬ xs.length < off + len := by omega
 by_cases hn : news = []
 ·have hyn : ys = [] := by rw [hn] at h2; exact List.eq_nil_of_length_eq_zero (by simpa using h2.symm)
  subst hyn
  have hap : aappend P t (.sl b τ'.sz off len (some c)) y H nx = some (.sl b τ'.sz off len (some c), H, nx) := by
   unfold aappend
   simp [he, hs, h1, hn, fitsS]
  obtain ⟨u, w', Z', φ', g1, g2, g3, g4, g5⟩ := sound_append (ty := ty) hh hx hy hap
  refine ⟨u, w', Z', φ', g1, by simpa using g2, g3, g4, ?_⟩
  have e1 : (castL rfl xs).take (off + len) ++ ([] : List τ'.den) ++ (castL rfl xs).drop (off + len + ([] : List τ'.den).length) = xs := by simp [castL_self]
  rw [e1]
  exact g5.sub (set_sub hb)
 ·have hap : aappend P t (.sl b τ'.sz off len (some c)) y H nx = some (.sl b τ'.sz off (len + news.length) (some c), H.set b (.row τ'.sz ((xs.map τ'.enc).take (off + len) ++ news ++ (xs.map τ'.enc).drop (off + len + news.length))), nx) := by
   unfold aappend
   simp [he, hs, h1, hn, h4, hb, asRow, hlt, hroom]
  obtain ⟨u, w', Z', φ', g1, g2, g3, g4, g5⟩ := sound_append (ty := ty) hh hx hy hap
  rw [h2] at g2
  refine ⟨u, w', Z', φ', g1, g2, g3, g4, g5.retype rfl fun l hrow => rowRel_weak hrow rfl (by simp [castL_self, h2]) fun i e hi => ?_⟩
  simp only [castL_self]
  have l1 : ((xs.map τ'.enc).take (off + len)).length = off + len := by simp; omega
  have l2 : (xs.take (off + len)).length = off + len := by simp; omega
  rw [List.append_assoc] at hi ⊢
  by_cases hil : i < off + len
  ·rw [List.getElem?_append_left (by omega), <- List.map_take, List.getElem?_map] at hi
   rw [List.getElem?_append_left (by omega)]
   cases hy : (xs.take (off + len))[i]? with
   | none => rw [hy] at hi; cases hi
   | some y => rw [hy] at hi; injection hi with hi; subst hi; exact ⟨y, rfl, WeakS.refl _⟩
  ·rw [List.getElem?_append_right (by omega), l1] at hi
   rw [List.getElem?_append_right (by omega), l2]
   generalize i - (off + len) = j at hi
   by_cases hj : j < news.length
   ·rw [List.getElem?_append_left hj] at hi
    rw [List.getElem?_append_left (by omega)]
    exact h3 j e hi
   ·rw [List.getElem?_append_right (by omega)] at hi
    rw [List.getElem?_append_right (by omega), <- h2]
    rw [<- List.map_drop, List.getElem?_map] at hi
    cases hy : (xs.drop (off + len + news.length))[j - news.length]? with
    | none => rw [hy] at hi; cases hi
    | some y => rw [hy] at hi; injection hi with hi; subst hi; exact ⟨y, rfl, WeakS.refl _⟩
def clrX (P : Program) (t : TypeId) (x : AV) (H : Heap) : Option (Heap × List Bool) :=
 match sliceElem P t with
 | none => none
 | some e => match szOf P e, zeroOf P e, x with
  | some 1, some (.int k z), .sl b 1 off len _ => match H.get b with
   | some (.lst (.i k') xs) => if k = k' /\ z = 0 then some (H.set b (.lst (.i k') (xs.take off ++ List.replicate len (0 : Int) ++ xs.drop (off + len))), [decide (off + len <= xs.length)]) else none
   | _ => none
  | _, _, _ => none
theorem enc_ints (k : IntKind) : ∀ xs : List Int, (xs.map (Ty.enc (.i k))).flatten = xs.map (AV.int k)
 | [] => rfl
 | x :: xs => congrArg (AV.int k x :: ·) (enc_ints k xs)
theorem clrX_core (hh : HRel base w0 Z φ H nx w) {t ty : TypeId} {x : AV} {ux : Value} {H' : Heap} {ps : List Bool} (hx : Rep Z φ x ux) (hr : clrX P t x H = some (H', ps)) (hp : ∀ p ∈ ps, p) :
  ValOk base w0 Z φ (.tup []) H' nx ((Builtin.clear_ #[t] ty #[ux]).run P w) := by
 unfold clrX at hr
 split at hr
 ·cases hr
 rename_i e he
 have hu := sliceElem_some he
 split at hr
 rotate_left
 ·cases hr
 rename_i k z b off len cap hs hz
 split at hr
 rotate_left
 ·cases hr
 rename_i k' xs hb
 split at hr
 rotate_left
 ·cases hr
 rename_i hk
 obtain ⟨rfl, rfl⟩ := hk
 simp only [Option.some.injEq, Prod.mk.injEq] at hr
 obtain ⟨rfl, rfl⟩ := hr
 have hle : off + len <= xs.length := of_decide_eq_true (hp _ (List.mem_singleton.2 rfl))
 by_cases h0 : len = 0
 ·subst h0
  refine ⟨.tuple #[], w, Z, φ, ?_, .tup rfl (fun i v u h => by simp at h), ZLe.refl _, PLe.refl _, ?_⟩
  ·have hux : ∃ ao c, ux = .slice ao 0 c := by cases hx <;> exact ⟨_, _, rfl⟩
   obtain ⟨ao, c, rfl⟩ := hux
   cases ao <;> simp [Builtin.clear_, run_underlying' hu, Sem.run_bind, go_sem]
  ·rw [show xs.take off ++ List.replicate 0 (0 : Int) ++ xs.drop (off + 0) = xs by simp]; exact hh.sub (set_sub hb)
 obtain ⟨uz, hz1, hz2⟩ := run_zeroValue (Z := Z) (φ := φ) hz w
 have huz : uz = .int k 0 := by cases hz2; rfl
 subst huz
 cases hx with
 | sl0n => omega
 | sl0s => omega
 | sl hf hls hc hl hm ha =>
 rename_i c l a
 have ha2 : a = ⟨l.B, l.ob + off * 1, none⟩ := by
  rcases ha with h | h
  ·rw [h]
  ·omega
 have hsz : l.s = 1 := hls
 obtain ⟨g1, g2⟩ := flat_store (P := P) (i := off) (o := 0) (cs := List.replicate len (.int k 0)) (us := List.replicate len (.int k 0)) hh hb (show asRow (.lst (.i k) xs) = some (1, xs.map (Ty.enc (.i k))) from rfl) hf (by simp) (fun u hu => by rw [List.eq_of_mem_replicate hu]; rfl) (by rw [List.all_eq_true]; intro v hv; rw [List.eq_of_mem_replicate hv]; rfl) (fun j v u hj huj => by
  have e1 := List.eq_of_mem_replicate (List.mem_of_getElem? hj)
  have e2 := List.eq_of_mem_replicate (List.mem_of_getElem? huj)
  subst e1 e2
  exact .int _ _) (by simp; omega)
 refine ⟨.tuple #[], _, Z, φ, ?_, .tup rfl (fun i v u h => by simp at h), ZLe.refl _, PLe.refl _, g2.retype rfl fun l2 hrow => rowRel_weak hrow rfl ?_ fun i el hi => ?_⟩
 ·subst ha2
  rw [Nat.add_zero, hsz] at g1
  have hzc : (Builtin.zeroCells (Value.int k 0).cells len).toList = List.replicate len (.int k 0) := by
   apply List.ext_getElem?
   intro i
   simp only [Builtin.zeroCells, Array.toList_map, Array.toList_range]
   have hc1 : (Value.int k 0).cells = #[.int k 0] := rfl
   rw [hc1]
   by_cases hi : i < len
   ·simp [hi, Nat.mod_one]
   ·simp [hi]
  rw [<- hzc] at g1
  obtain ⟨m, rfl⟩ := Nat.exists_eq_succ_of_ne_zero h0
  have g1' : Sem.run P (storeCells ⟨l.B, l.ob + off, none⟩ (Builtin.zeroCells #[Value.int k 0] (m + 1)).toList) w = .ok () (w.setCells l.B (l.ob + off * l.s) (List.replicate (m + 1) (Value.int k 0))) := by
   rw [hsz, Nat.mul_one]
   rw [Nat.mul_one] at g1
   rw [<- hzc]; exact g1
  simp [Builtin.clear_, run_underlying' hu, hz1, Sem.run_bind, g1', go_sem]
 ·simp [castL_self, chunk_eq]; omega
 ·have hlx : (xs.map (Ty.enc (.i k))).flatten = xs.map (AV.int k) := enc_ints k xs
  have hll : (splice (xs.map (Ty.enc (.i k))).flatten (off * 1 + 0) (List.replicate len (.int k 0))).length = (xs.map (Ty.enc (.i k))).length * 1 := by
   rw [splice_length, hlx]; simp
  obtain ⟨q1, q2, q3⟩ := chunk_get hll hi
  rw [List.length_map] at q1
  have hel : el = [el.getD 0 .undef] := by
   cases el with
   | nil => simp at q2
   | cons v l => cases l with
    | nil => rfl
    | cons _ _ => simp at q2
  have h3 := q3 0 (by omega)
  rw [splice_get, hlx, List.length_replicate, List.length_map] at h3
  have hxi : i < (xs.take off ++ List.replicate len (0 : Int) ++ xs.drop (off + len)).length := by simp; omega
  refine ⟨(xs.take off ++ List.replicate len (0 : Int) ++ xs.drop (off + len))[i], by simp [castL_self], ?_⟩
  have hg : (xs.take off ++ List.replicate len (0 : Int) ++ xs.drop (off + len))[i]? = if off <= i /\ i < off + len then some 0 else xs[i]? := by
   by_cases c1 : i < off
   ·rw [if_neg (by omega), List.append_assoc, List.getElem?_append_left (by simp; omega), List.getElem?_take, if_pos c1]
   ·by_cases c2 : i < off + len
    ·rw [if_pos ⟨by omega, c2⟩, List.append_assoc, List.getElem?_append_right (by simp; omega), List.getElem?_append_left (by simp; omega), List.getElem?_replicate, if_pos (by simp; omega)]
    ·rw [if_neg (by omega), List.getElem?_append_right (by simp; omega), List.getElem?_drop]
     congr 1; simp; omega
  rw [List.getElem?_eq_getElem hxi] at hg
  generalize (xs.take off ++ List.replicate len (0 : Int) ++ xs.drop (off + len))[i] = y at *
  have hel2 : el = [.int k y] := by
   rw [hel]
   congr 1
   by_cases c : off <= i /\ i < off + len
   ·rw [if_pos c] at hg
    injection hg with hg
    subst hg
    rw [if_pos (by omega)] at h3
    rw [List.getElem?_replicate, if_pos (by omega)] at h3
    rw [List.getD_eq_getElem?_getD, h3]; rfl
   ·rw [if_neg c] at hg
    rw [if_neg (by omega), List.getElem?_map] at h3
    rw [show i * 1 + 0 = i by omega, <- hg] at h3
    rw [List.getD_eq_getElem?_getD, h3]; rfl
  rw [hel2]
  exact WeakS.refl _
def cpyX (P : Program) (t : TypeId) (x y : AV) (H : Heap) : Option (Nat × Heap × List Bool) :=
 match sliceElem P t with
 | none => none
 | some e => match szOf P e, tyOf P 8 e, x with
  | some 1, some (.i k), .sl b 1 off len _ => match H.get b, elemsD H (.i k) ((Ty.i k).dec []) y with
   | some (.lst (.i k') xs), some (ys, ps) => if k' = k then some (ys.length, H.set b (.lst (.i k') (xs.take off ++ (show List Int from ys) ++ xs.drop (off + ys.length))), ps ++ [decide (ys.length <= len), decide (off + len <= xs.length), Nat.blt 0 ys.length]) else none
   | _, _ => none
  | _, _, _ => none
theorem cpyX_core (hh : HRel base w0 Z φ H nx w) {t ty : TypeId} {x y : AV} {ux uy : Value} {n : Nat} {H' : Heap} {ps : List Bool} (hx : Rep Z φ x ux) (hy : Rep Z φ y uy) (hr : cpyX P t x y H = some (n, H', ps)) (hp : ∀ p ∈ ps, p) :
  ValOk base w0 Z φ (.int .i64 n) H' nx ((Builtin.copy_ #[t, t] ty #[ux, uy]).run P w) := by
 unfold cpyX at hr
 split at hr
 ·cases hr
 rename_i e he
 split at hr
 rotate_left
 ·cases hr
 rename_i k b off len cap hs hτ
 split at hr
 rotate_left
 ·cases hr
 rename_i k' xs ys ps0 hb hys
 split at hr
 rotate_left
 ·cases hr
 rename_i hk
 subst hk
 simp only [Option.some.injEq, Prod.mk.injEq] at hr
 obtain ⟨rfl, rfl, rfl⟩ := hr
 have hp0 : ∀ p ∈ ps0, p = true := fun p h => hp p (List.mem_append_left _ h)
 have c1 : ys.length <= len := of_decide_eq_true (hp (decide (ys.length <= len)) (by simp))
 have c2 : off + len <= xs.length := of_decide_eq_true (hp (decide (off + len <= xs.length)) (by simp))
 have c3 : 0 < ys.length := by
  have := hp (Nat.blt 0 ys.length) (by simp)
  have : 1 <= ys.length := by simpa [Nat.blt] using this
  omega
 obtain ⟨news, h1, h2, h3⟩ := elemsD_rows hys hp0
 have h4 : fitsS news 1 = true := by
  cases news with
  | nil => rfl
  | cons e0 l =>
   obtain ⟨x0, _, hw⟩ := h3 0 e0 rfl
   simp [fitsS, (hw (fun _ => none) (fun _ => none)).1, Ty.enc_length, Ty.sz]
 have hmin : Nat.min news.length len = ys.length := by rw [h2]; exact Nat.min_eq_left c1
 have hrow : asRow (.lst (.i k') xs) = some (1, xs.map (Ty.enc (.i k'))) := rfl
 have hap : acopy P t (.sl b 1 off len cap) y H nx = some (.int .i64 (ys.length : Nat), H.set b (.row 1 (chunk 1 (xs.map (Ty.enc (.i k'))).length (spliceF (xs.map (Ty.enc (.i k'))).flatten (off * 1 + 0) (news.take ys.length).flatten))), nx) := by
  have c4 : off + len <= (xs.map (Ty.enc (.i k'))).length := by rw [List.length_map]; exact c2
  unfold acopy
  simp only [he, hs, h1, hmin, hb, hrow, Option.bind_eq_bind, Option.bind_some]
  rw [if_neg (by omega), if_pos ⟨trivial, c4, h4⟩]
 obtain ⟨u, w', Z', φ', g1, g2, g3, g4, g5⟩ := sound_copy (ty := ty) hh hx hy hap
 refine ⟨u, w', Z', φ', g1, g2, g3, g4, g5.retype rfl fun l hrow => rowRel_weak hrow rfl ?_ fun i el hi => ?_⟩
 ·simp [castL_self, chunk_eq]; omega
 ·rw [spliceF_eq] at hi
  have hlx : (xs.map (Ty.enc (.i k'))).flatten = xs.map (AV.int k') := enc_ints k' xs
  have hnl : ∀ e ∈ news.take ys.length, e.length = 1 := fun e he => by
   obtain ⟨m, hm⟩ := List.mem_iff_getElem?.1 (List.mem_of_mem_take he)
   obtain ⟨x0, _, hw⟩ := h3 m e hm
   rw [(hw (fun _ => none) (fun _ => none)).1, Ty.enc_length]; rfl
  have hnf : (news.take ys.length).flatten.length = ys.length := by
   rw [flat_len hnl, List.length_take, h2]; omega
  have hll : (splice (xs.map (Ty.enc (.i k'))).flatten (off * 1 + 0) (news.take ys.length).flatten).length = (xs.map (Ty.enc (.i k'))).length * 1 := by
   rw [splice_length, hlx]; simp
  obtain ⟨q1, q2, q3⟩ := chunk_get hll hi
  rw [List.length_map] at q1
  have h5 := q3 0 (by omega)
  rw [splice_get, hlx, hnf, List.length_map, show i * 1 + 0 = i by omega, show off * 1 + 0 = off by omega] at h5
  have one : ∀ {l : List AV} {v : AV}, l.length = 1 -> l[0]? = some v -> l = [v] := fun {l v} a b => by
   match l, a, b with
   | [v'], _, b => simp at b; rw [b]
  have hg : (xs.take off ++ (show List Int from ys) ++ xs.drop (off + ys.length))[i]? = if off <= i /\ i < off + ys.length then ys[i - off]? else xs[i]? := by
   show (xs.take off ++ ys ++ xs.drop (off + ys.length))[i]? = _
   by_cases c1 : i < off
   ·rw [if_neg (by omega), List.append_assoc, List.getElem?_append_left (by simp; omega), List.getElem?_take, if_pos c1]
   ·by_cases c2 : i < off + ys.length
    ·rw [if_pos ⟨by omega, c2⟩, List.append_assoc, List.getElem?_append_right (by simp; omega), List.getElem?_append_left (by simp; omega), List.length_take]
     congr 1; omega
    ·rw [if_neg (by omega), List.getElem?_append_right (by simp; omega), List.getElem?_drop]
     congr 1; simp; omega
  by_cases c : off <= i /\ i < off + ys.length
  ·rw [if_pos c] at hg
   rw [if_pos (by omega)] at h5
   have hlt : i - off < news.length := by omega
   have hne : (news.take ys.length)[i - off]? = some news[i - off] := by rw [List.getElem?_take, if_pos (by omega), List.getElem?_eq_getElem hlt]
   obtain ⟨y0, hy0, hw⟩ := h3 (i - off) _ (List.getElem?_eq_getElem hlt)
   have hl1 : (news[i - off]).length = 1 := hnl _ (List.mem_of_getElem? hne)
   have hv : (news[i - off])[0]? = some ((news[i - off])[0]'(by omega)) := List.getElem?_eq_getElem _
   have h6 := flat_at hnl hne hv
   rw [show (i - off) * 1 + 0 = i - off by omega] at h6
   rw [h6] at h5
   refine ⟨y0, hg.trans hy0, ?_⟩
   rw [one q2 h5, <- one hl1 hv]
   exact hw
  ·rw [if_neg c] at hg
   rw [if_neg (by omega), List.getElem?_map] at h5
   have hxi : i < xs.length := by omega
   rw [List.getElem?_eq_getElem hxi] at hg h5
   refine ⟨xs[i], hg, ?_⟩
   rw [one q2 h5]
   exact WeakS.refl _
def cpyR (P : Program) (t : TypeId) (x y : AV) (H : Heap) : Option (Nat × Heap × List Bool) :=
 match sliceElem P t with
 | none => none
 | some e => match tyOf P 8 e, x with
  | some (.i k), .sl b _ _ _ _ => match H.get b with
   | some (.row 1 es) => match mapD ((Ty.i k).dec []) es with
    | some (xs, ps) => match cpyX P t x y (H.set b (.lst (.i k) xs)) with
     | some (n, H', ps') => some (n, H', ps ++ ps')
     | none => none
    | none => none
   | _ => cpyX P t x y H
  | _, _ => none
theorem cpyR_core (hh : HRel base w0 Z φ H nx w) {t ty : TypeId} {x y : AV} {ux uy : Value} {n : Nat} {H' : Heap} {ps : List Bool} (hx : Rep Z φ x ux) (hy : Rep Z φ y uy) (hr : cpyR P t x y H = some (n, H', ps)) (hp : ∀ p ∈ ps, p) :
  ValOk base w0 Z φ (.int .i64 n) H' nx ((Builtin.copy_ #[t, t] ty #[ux, uy]).run P w) := by
 unfold cpyR at hr
 split at hr
 ·cases hr
 split at hr
 rotate_left
 ·cases hr
 split at hr
 rotate_left
 ·exact cpyX_core hh hx hy hr hp
 rename_i k b s0 off len cap hτ _ es hb
 split at hr
 rotate_left
 ·cases hr
 rename_i xs ps1 hm
 split at hr
 rotate_left
 ·cases hr
 rename_i n' H2 ps2 hc
 simp only [Option.some.injEq, Prod.mk.injEq] at hr
 obtain ⟨rfl, rfl, rfl⟩ := hr
 obtain ⟨k1, k2⟩ := mapD_get hm
 have h2 : HRel base w0 Z φ (H.set b (.lst (.i k) xs)) nx w := (hh.sub (set_sub hb)).retype rfl fun l hrow => rowRel_weak hrow rfl k1.symm fun i e hi => let ⟨x, p, hx, hd, hq⟩ := k2 i e hi; ⟨x, hx, dec_weak hd fun q hq' => hp q (List.mem_append_left _ (hq q hq'))⟩
 exact cpyX_core h2 hx hy hc fun p h => hp p (List.mem_append_right _ h)
end
end Go.Lom

/- Operations on unknown contents: what they yield, with the conditions. No conditions of its own. -/
namespace Go.Lom
open Go.RowKit
def optK {α : Type} (o : Option α) (K : α -> Prop) : Prop := match o with | some x => K x | none => False
theorem optK_iff {α : Type} {o : Option α} {K : α -> Prop} : optK o K ↔ ∃ x, o = some x /\ K x := by cases o <;> simp [optK]
def fork (b : Bool) (p q : Prop) : Prop := match b with | true => p | false => q
theorem fork_iff {b : Bool} {p q : Prop} : fork b p q ↔ (b = true -> p) /\ (b = false -> q) := by cases b <;> simp [fork]
def bsel (t p q : Bool) : Bool := match t with | true => p | false => q
def loK : IntKind -> Int
 | .i8 => -128 | .i16 => -32768 | .i32 => -2147483648 | .i64 => -9223372036854775808
 | .u8 | .u16 | .u32 | .u64 => 0
def hiK : IntKind -> Int
 | .i8 => 127 | .i16 => 32767 | .i32 => 2147483647 | .i64 => 9223372036854775807
 | .u8 => 255 | .u16 => 65535 | .u32 => 4294967295 | .u64 => 18446744073709551615
def inR (k : IntKind) : Int -> Bool
 | .ofNat a => Nat.ble a (hiK k).toNat
 | .negSucc a => Nat.ble (a + 1) (-(loK k)).toNat
theorem inR_iff {k : IntKind} : ∀ {n : Int}, inR k n = true ↔ loK k <= n /\ n <= hiK k
 | .ofNat a => by
  rw [show inR k (Int.ofNat a) = Nat.ble a (hiK k).toNat from rfl, Nat.ble_eq, show Int.ofNat a = (a : Int) from rfl]
  cases k <;> simp only [loK, hiK] <;> omega
 | .negSucc a => by cases k <;> simp only [inR, loK, hiK, Nat.ble_eq] <;> omega
theorem inR_i64 {n : Int} : inR .i64 n = true ↔ -9223372036854775808 <= n /\ n <= 9223372036854775807 := inR_iff
theorem wrap_in {k : IntKind} {n : Int} (h : inR k n = true) : k.wrap n = n := by
 rw [inR_iff] at h
 cases k <;> simp only [loK, hiK] at h <;> simp only [IntKind.wrap, IntKind.signed, IntKind.bits, Bool.true_and, Bool.false_and] <;> simp <;> omega
def beqFs (P : Program) (r : TypeId -> AV -> AV -> Option Bool) (xs ys : List AV) : List Field -> Option Bool
 | [] => some true
 | f :: fs => if f.name = "_" then beqFs P r xs ys fs else match rd P f.type xs f.offset, rd P f.type ys f.offset with
  | some a, some b => match r f.type a b, beqFs P r xs ys fs with
   | some c, some d => some (c && d)
   | _, _ => none
  | _, _ => none
def beqIs (P : Program) (r : TypeId -> AV -> AV -> Option Bool) (e : TypeId) (n : Nat) (xs ys : List AV) : List Nat -> Option Bool
 | [] => some true
 | i :: is => match rd P e xs (i * n), rd P e ys (i * n) with
  | some a, some b => match r e a b, beqIs P r e n xs ys is with
   | some c, some d => some (c && d)
   | _, _ => none
  | _, _ => none
def abeqIn (P : Program) : Nat -> TypeId -> AV -> AV -> Option Bool
 | 0, _, _, _ => none
 | d + 1, t, x, y => match P.underlying t, x, y with
  | some (.struct fs), .agg xs, .agg ys => if P.stoodInHeld t then none else beqFs P (abeqIn P d) xs ys fs.toList
  | some (.array len e), .agg xs, .agg ys => match szOf P e with
   | some n => beqIs P (abeqIn P d) e n xs ys (List.range len)
   | none => none
  | _, x, y => aeqIn P (d + 1) t x y
theorem beqFs_ok {P : Program} {r r' : TypeId -> AV -> AV -> Option Bool} (hr : ∀ t a b c, r t a b = some c -> r' t a b = some c) {xs ys : List AV} : ∀ (fs : List Field) (b : Bool), beqFs P r xs ys fs = some b -> eqFs P r' xs ys fs = some b
 | [], b, h => h
 | f :: fs, b, h => by
  unfold beqFs at h
  unfold eqFs
  by_cases hn : f.name = "_"
  ·rw [if_pos hn] at h ⊢; exact beqFs_ok hr fs b h
  ·rw [if_neg hn] at h ⊢
   split at h
   ·rename_i x y hx hy
    split at h
    ·rename_i c d hc hd
     injection h with h; subst h
     simp only [hx, hy, hr _ _ _ _ hc, Option.bind_eq_bind, Option.bind_some]
     cases c with
     | true => simpa using beqFs_ok hr fs d hd
     | false => simp
    ·cases h
   ·cases h
theorem beqIs_ok {P : Program} {r r' : TypeId -> AV -> AV -> Option Bool} (hr : ∀ t a b c, r t a b = some c -> r' t a b = some c) {e : TypeId} {n : Nat} {xs ys : List AV} : ∀ (is : List Nat) (b : Bool), beqIs P r e n xs ys is = some b -> eqIs P r' e n xs ys is = some b
 | [], b, h => h
 | i :: is, b, h => by
  unfold beqIs at h
  unfold eqIs
  split at h
  ·rename_i x y hx hy
   split at h
   ·rename_i c d hc hd
    injection h with h; subst h
    simp only [hx, hy, hr _ _ _ _ hc, Option.bind_eq_bind, Option.bind_some]
    cases c with
    | true => simpa using beqIs_ok hr is d hd
    | false => simp
   ·cases h
  ·cases h
theorem abeqIn_ok {P : Program} : ∀ (d : Nat) (t : TypeId) (x y : AV) (b : Bool), abeqIn P d t x y = some b -> aeqIn P d t x y = some b
 | 0, _, _, _, _, h => by simp [abeqIn] at h
 | d + 1, t, x, y, b, h => by
  have ih := abeqIn_ok (P := P) d
  unfold abeqIn at h
  split at h
  ·rename_i fs xs ys hu
   unfold aeqIn
   rw [hu]
   simp only
   split at h
   ·cases h
   ·rename_i hst
    rw [if_neg hst]
    exact beqFs_ok ih _ _ h
  ·rename_i len e xs ys hu
   unfold aeqIn
   rw [hu]
   simp only
   split at h
   ·rename_i n hn
    rw [hn]
    exact beqIs_ok ih _ _ h
   ·cases h
  ·exact h
abbrev QT := Option (AV × List Bool)
def qBin (P : Program) (op : BinOp) (t : TypeId) (ox oy : Operand) (x y : AV) : QT :=
 match x, y with
 | .int k a, .int k' b => if k = k' then match op with
   | .add => some (.int k (a + b), [inR k (a + b)])
   | .sub => some (.int k (a - b), [inR k (a - b)])
   | .mul => some (.int k (a * b), [inR k (a * b)])
   | .quo => some (.int k (a.tdiv b), [decide (b ≠ 0), inR k (a.tdiv b)])
   | .rem => some (.int k (a.tmod b), [decide (b ≠ 0)])
   | .shl => some (.int k (a * 2 ^ (min b.toNat k.bits)), [decide (0 <= b), inR k (a * 2 ^ (min b.toNat k.bits))])
   | .shr => some (.int k (a.fdiv (2 ^ (min b.toNat k.bits))), [decide (0 <= b)])
   | _ => none
  else none
 | .str a, .str b => match op with
  | .add => some (.str (a ++ b), [Nat.ble (a.length + b.length) 9223372036854775807])
  | _ => none
 | .agg xs, .agg ys => match op with
  | .eql => if abin.guardOk P t ox oy (.agg xs) (.agg ys) then (abeqIn P 10000 t (.agg xs) (.agg ys)).map fun b => (.bool b, []) else none
  | .neq => if abin.guardOk P t ox oy (.agg xs) (.agg ys) then (abeqIn P 10000 t (.agg xs) (.agg ys)).map fun b => (.bool (!b), []) else none
  | _ => none
 | x, y => match P.underlying t with
  | some (.array len e) => match P.underlying e with
   | some (.int k) => match arrI k x, arrI k y with
    | some xs, some ys => match op with
     | .eql => if abin.guardOk P t ox oy x y = true /\ szOf P e = some 1 then some (.bool (decide (xs = ys)), [decide (xs.length = len), decide (ys.length = len)]) else none
     | .neq => if abin.guardOk P t ox oy x y = true /\ szOf P e = some 1 then some (.bool (!decide (xs = ys)), [decide (xs.length = len), decide (ys.length = len)]) else none
     | _ => none
    | _, _ => none
   | _ => none
  | _ => none
theorem qBin_ok {P : Program} {op : BinOp} {t : TypeId} {ox oy : Operand} {x y r : AV} {ps : List Bool} (h : qBin P op t ox oy x y = some (r, ps)) (hp : ∀ p ∈ ps, p = true) : abin P op t ox oy x y = some r := by
 unfold qBin at h
 split at h
 ·rename_i k a k' b
  split at h
  ·rename_i hk
   subst hk
   split at h <;> simp only [Option.some.injEq, Prod.mk.injEq, reduceCtorEq] at h <;> obtain ⟨rfl, rfl⟩ := h
   ·simp [abin, binI, wrap_in (hp _ (List.mem_singleton.2 rfl))]
   ·simp [abin, binI, wrap_in (hp _ (List.mem_singleton.2 rfl))]
   ·simp [abin, binI, wrap_in (hp _ (List.mem_singleton.2 rfl))]
   ·have h1 : b ≠ 0 := of_decide_eq_true (hp _ (List.mem_cons_self ..))
    have h2 := wrap_in (hp (inR k (a.tdiv b)) (by simp))
    simp [abin, binI, h1, h2]
   ·have h1 : b ≠ 0 := of_decide_eq_true (hp _ (List.mem_cons_self ..))
    simp [abin, binI, h1]
   ·have h1 : 0 <= b := of_decide_eq_true (hp _ (List.mem_cons_self ..))
    have h2 := wrap_in (hp (inR k (a * 2 ^ (min b.toNat k.bits))) (by simp))
    have h3 : ¬ b < 0 := by omega
    simp only [abin, if_neg h3, h2]
   ·have h1 : 0 <= b := of_decide_eq_true (hp _ (List.mem_cons_self ..))
    have h3 : ¬ b < 0 := by omega
    simp only [abin, if_neg h3]
  ·cases h
 ·rename_i a b
  split at h <;> simp only [Option.some.injEq, Prod.mk.injEq, reduceCtorEq] at h
  obtain ⟨rfl, rfl⟩ := h
  have h1 : ((a.length + b.length : Nat) : Int) <= 9223372036854775807 := by have := Nat.le_of_ble_eq_true (hp _ (List.mem_cons_self ..)); omega
  have h2 : ¬ ((a.length + b.length : Nat) : Int) > IntKind.i64.max := by simp [IntKind.max, IntKind.signed, IntKind.bits]; omega
  simp only [abin, binS, if_neg h2]
 ·rename_i xs ys
  split at h
  ·split at h
   ·rename_i hg
    simp only [Option.map_eq_some_iff, Prod.mk.injEq] at h
    obtain ⟨b, hb, rfl, rfl⟩ := h
    simp [abin, hg, abeqIn_ok _ _ _ _ _ hb]
   ·cases h
  ·split at h
   ·rename_i hg
    simp only [Option.map_eq_some_iff, Prod.mk.injEq] at h
    obtain ⟨b, hb, rfl, rfl⟩ := h
    simp [abin, hg, abeqIn_ok _ _ _ _ _ hb]
   ·cases h
  ·cases h
 ·rename_i n1 n2 n3
  split at h
  rotate_left
  ·cases h
  rename_i len e hu
  split at h
  rotate_left
  ·cases h
  rename_i k he
  split at h
  rotate_left
  ·cases h
  rename_i xs ys hx hy
  have main : ∀ (b : Bool), szOf P e = some 1 -> xs.length = len -> ys.length = len -> b = decide (xs = ys) -> aeqIn P 10000 t x y = some b := fun b h1 h2 h3 hb => by
   have hnotboth : ∀ as bs, x = .agg as -> y = .agg bs -> False := fun as bs e1 e2 => n3 as bs e1 e2
   subst hb
   unfold arrI at hx hy
   split at hx
   ·split at hx
    rotate_left
    ·cases hx
    rename_i k1 zs hk
    injection hx with hx; subst hx hk
    have hx2 : arrI k1 (.ar (.i k1) zs) = some zs := by simp [arrI]
    have hy2 : arrI k1 y = some ys := hy
    simp [aeqIn, hu, arEq, he, hx2, hy2, h1, h2, h3]
   ·rename_i cs
    split at hy
    ·split at hy
     rotate_left
     ·cases hy
     rename_i k1 zs hk
     injection hy with hy; subst hy hk
     have hx2 : arrI k1 (.agg cs) = some xs := hx
     have hy2 : arrI k1 (.ar (.i k1) zs) = some zs := by simp [arrI]
     simp [aeqIn, hu, arEq, he, hx2, hy2, h1, h2, h3]
    ·exact (hnotboth _ _ rfl rfl).elim
    ·cases hy
   ·cases hx
  have nx : ∀ k a, x ≠ .int k a := fun k a e => by rw [e] at hx; simp [arrI] at hx
  have ns : ∀ a, x ≠ .str a := fun a e => by rw [e] at hx; simp [arrI] at hx
  split at h
  ·split at h
   ·rename_i hg
    simp only [Option.some.injEq, Prod.mk.injEq] at h
    obtain ⟨rfl, rfl⟩ := h
    have h2 : xs.length = len := of_decide_eq_true (hp _ (by simp))
    have h3 : ys.length = len := of_decide_eq_true (hp _ (by simp))
    have hm := main _ hg.2 h2 h3 rfl
    unfold abin
    split <;> first | exact absurd rfl (nx _ _) | exact absurd rfl (ns _) | (rw [if_pos hg.1, hm]; rfl) | (rename_i e; cases e; done) | (simp_all; done)
   ·cases h
  ·split at h
   ·rename_i hg
    simp only [Option.some.injEq, Prod.mk.injEq] at h
    obtain ⟨rfl, rfl⟩ := h
    have h2 : xs.length = len := of_decide_eq_true (hp _ (by simp))
    have h3 : ys.length = len := of_decide_eq_true (hp _ (by simp))
    have hm := main _ hg.2 h2 h3 rfl
    unfold abin
    split <;> first | exact absurd rfl (nx _ _) | exact absurd rfl (ns _) | (rw [if_pos hg.1, hm]; rfl) | (rename_i e; cases e; done) | (simp_all; done)
   ·cases h
  ·cases h
def qUn (op : UnOp) (x : AV) : QT :=
 match op, x with
 | .neg, .int k n => some (.int k (-n), [inR k (-n)])
 | _, _ => none
theorem qUn_ok {op : UnOp} {x r : AV} {ps : List Bool} (h : qUn op x = some (r, ps)) (hp : ∀ p ∈ ps, p = true) : aun op x = some r := by
 unfold qUn at h
 split at h
 ·simp only [Option.some.injEq, Prod.mk.injEq] at h
  obtain ⟨rfl, rfl⟩ := h
  rename_i k n
  have h1 := wrap_in (hp (inR k (-n)) (by simp))
  simp [aun, h1]
 ·cases h
def byteI (n : Int) : UInt8 := UInt8.ofNat n.toNat
def qConv (P : Program) (src dst : TypeId) (x : AV) (H : Heap) : QT :=
 match P.underlying src, P.underlying dst, x with
 | some _, some (.int k), .int _ n => some (.int k n, [inR k n])
 | some (.slice e), some .string, x => match P.underlying e with
  | some (.int .u8) => match elemsD H (.i .u8) ((Ty.i .u8).dec []) x with
   | some (bs, ps) => some (.str (bs.map byteI), ps)
   | none => none
  | _ => none
 | _, _, _ => none
theorem mapD_bytes : ∀ (es : List (List AV)) (bs : List Int) (ps : List Bool), mapD ((Ty.i .u8).dec []) es = some (bs, ps) -> es = bs.map fun n => [.int .u8 n]
 | [], bs, ps, h => by simp only [mapD, Option.some.injEq, Prod.mk.injEq] at h; obtain ⟨rfl, _⟩ := h; rfl
 | e :: es, bs, ps, h => by
  simp only [mapD] at h
  split at h
  ·rename_i x p hd
   split at h
   ·rename_i xs q hm
    simp only [Option.some.injEq, Prod.mk.injEq] at h
    obtain ⟨rfl, _⟩ := h
    have hd : decI .u8 e = some (x, p) := hd
    unfold decI at hd
    split at hd
    ·split at hd
     ·rename_i hk
      simp only [Option.some.injEq, Prod.mk.injEq] at hd
      obtain ⟨rfl, _⟩ := hd
      subst hk
      rw [List.map_cons, <- mapD_bytes es xs q hm]
     ·cases hd
    ·cases hd
   ·cases h
  ·cases h
theorem mapM_byteOf : ∀ bs : List Int, (bs.map fun n => [AV.int .u8 n]).mapM byteOf = some (bs.map byteI)
 | [] => rfl
 | b :: bs => by
  rw [List.map_cons, List.mapM_cons, mapM_byteOf bs]
  rfl
theorem bytes_elems {H : Heap} {x : AV} {bs : List Int} {ps : List Bool} (he : elemsD H (.i .u8) ((Ty.i .u8).dec []) x = some (bs, ps)) (hp : ∀ p ∈ ps, p = true) : elems H x = some (bs.map fun n => [AV.int .u8 n]) := by
 have encs : ∀ zs : List Int, zs.map (Ty.enc (.i .u8)) = zs.map fun n => [AV.int .u8 n] := fun zs => rfl
 unfold elemsD at he
 split at he
 ·simp only [Option.some.injEq, Prod.mk.injEq] at he; obtain ⟨rfl, rfl⟩ := he; rfl
 ·simp only [Option.some.injEq, Prod.mk.injEq] at he; obtain ⟨rfl, rfl⟩ := he; rfl
 ·split at he
  ·rename_i ht
   subst ht
   simp only [Option.some.injEq, Prod.mk.injEq] at he; obtain ⟨rfl, rfl⟩ := he
   rfl
  ·cases he
 ·simp only [elems]; rw [mapD_bytes _ _ _ he]
 ·rename_i b s off len cap
  split at he
  ·split at he
   ·rename_i t' xs hb
    split at he
    ·rename_i ht
     subst ht
     simp only [Option.some.injEq, Prod.mk.injEq] at he; obtain ⟨rfl, rfl⟩ := he
     have hle : off + len <= xs.length := of_decide_eq_true (hp _ (List.mem_singleton.2 rfl))
     simp [elems, hb, asRow, seg, hle, List.map_take, List.map_drop, castL_self]
     rfl
    ·cases he
   ·rename_i s' es hb
    split at he
    ·rename_i hle
     simp only [elems, hb, asRow, Option.bind_eq_bind, Option.bind_some]
     rw [if_pos hle, <- mapD_bytes _ _ _ he]; rfl
    ·cases he
   ·cases he
  ·cases he
 ·cases he
theorem qConv_ok {P : Program} {src dst : TypeId} {v r : AV} {H : Heap} {ps : List Bool} (h : qConv P src dst v H = some (r, ps)) (hp : ∀ p ∈ ps, p = true) : aconv P src dst v H = some r := by
 unfold qConv at h
 unfold aconv
 split at h
 ·rename_i d1 k k2 n h1 h2
  simp only [Option.some.injEq, Prod.mk.injEq] at h
  obtain ⟨rfl, rfl⟩ := h
  simp [h1, h2, wrap_in (hp _ (List.mem_singleton.2 rfl))]
 ·rename_i y e h1 h2
  split at h
  ·rename_i h3
   split at h
   ·rename_i bs ps' he
    simp only [Option.some.injEq, Prod.mk.injEq] at h
    obtain ⟨rfl, rfl⟩ := h
    have hel := bytes_elems he hp
    have e1 : ∀ u : AV, elems H u = some (bs.map fun n => [AV.int .u8 n]) -> (match some (TypeDesc.slice e), some TypeDesc.string, u with
      | some _, some (.int k), .int _ n => some (AV.int k (k.wrap n))
      | some _, some .string, .str s => some (.str s)
      | some (.slice e), some .string, x => match P.underlying e with
       | some (.int .u8) => (do
        let es <- elems H x
        let bs <- es.mapM byteOf
        some (.str bs))
       | _ => none
      | _, _, _ => none) = some (.str (bs.map byteI)) := by
     intro u hu
     cases u <;> first | (simp [elems] at hu; done) | simp only [h3, hu, Option.bind_eq_bind, Option.bind_some, mapM_byteOf]
    rw [h1, h2]
    exact e1 _ hel
   ·cases h
  ·cases h
 ·cases h
def bndI : Option AV -> Int -> Option Int
 | none, d => some d
 | some (.int _ n), _ => some n
 | _, _ => none
theorem bndI_ok {x : Option AV} {d : Nat} {n : Int} {most : Nat} (h : bndI x d = some n) (h0 : 0 <= n) (h1 : n <= most) : bnd x d most = some n.toNat := by
 unfold bndI at h
 split at h
 ·injection h with h; subst h; simp [bnd]
 ·injection h with h; subst h
  simp [bnd, asI, h0, h1]
 ·cases h
def qSlice (P : Program) (t : TypeId) (x : AV) (lo hi mx : Option AV) : QT :=
 match mx with
 | some mv => match P.underlying t, x, mv, hi with
  | some (.slice e), .sl b s off len cap, .int _ m, some (.int _ h) => if szOf P e = some s then match bndI lo (0 : Nat) with
   | some l => some (.sl b s (addN off l.toNat) (h.toNat - l.toNat) (some (m.toNat - l.toNat)), [decide (0 <= l /\ l <= h /\ h <= m /\ m <= cap.getD len)])
   | none => none
   else none
  | _, _, _, _ => none
 | none => match P.underlying t, x with
  | some .string, .str s => match bndI hi s.length, bndI lo (0 : Nat) with
   | some h, some l => some (.str ((s.take h.toNat).drop l.toNat), [decide (0 <= l /\ l <= h /\ h <= s.length)])
   | _, _ => none
  | some (.slice e), .rl τ xs => if szOf P e = some τ.sz then match bndI hi xs.length, bndI lo (0 : Nat) with
   | some h, some l => some (.rl τ ((xs.take h.toNat).drop l.toNat), [decide (0 <= l /\ l <= h /\ h <= xs.length)])
   | _, _ => none
   else none
  | some (.slice e), .sl b s off len cap => if szOf P e = some s then match bndI hi len, bndI lo (0 : Nat) with
   | some h, some l => some (.sl b s (addN off l.toNat) (h.toNat - l.toNat) (cap.map (· - l.toNat)), [decide (0 <= l /\ l <= h /\ h <= len /\ len <= cap.getD len)])
   | _, _ => none
   else none
  | _, _ => none
theorem qSlice_ok {P : Program} {t : TypeId} {x r : AV} {lo hi mx : Option AV} {ps : List Bool} (h : qSlice P t x lo hi mx = some (r, ps)) (hp : ∀ p ∈ ps, p = true) : aslice P t x lo hi mx = some r := by
 unfold qSlice at h
 split at h
 ·split at h
  ·rename_i e b s off len cap k1 m k2 hn hu
   split at h
   ·rename_i hs
    split at h
    ·rename_i l hl
     simp only [Option.some.injEq, Prod.mk.injEq] at h
     obtain ⟨rfl, rfl⟩ := h
     have hc : 0 <= l /\ l <= hn /\ hn <= m /\ m <= cap.getD len := of_decide_eq_true (hp _ (List.mem_singleton.2 rfl))
     have b1 : bnd (some (.int k2 hn)) len m.toNat = some hn.toNat := by
      simp only [bnd, asI, Option.bind_eq_bind, Option.bind_some]
      rw [if_pos ⟨by omega, by omega⟩]
     have b2 := bndI_ok (most := hn.toNat) hl hc.1 (by omega)
     have b3 : mxB (some (.int k1 m)) (cap.getD len) = some (some m.toNat) := by
      simp only [mxB, bnd, asI, Option.bind_eq_bind, Option.bind_some]
      rw [if_pos ⟨by omega, by omega⟩]; rfl
     simp [aslice, hu, hs, b1, b2, b3, newCap, addN_eq]
    ·cases h
   ·cases h
  ·cases h
 split at h
 ·rename_i s hu
  split at h
  ·rename_i hn l hh hl
   simp only [Option.some.injEq, Prod.mk.injEq] at h
   obtain ⟨rfl, rfl⟩ := h
   have hc : 0 <= l /\ l <= hn /\ hn <= s.length := of_decide_eq_true (hp _ (List.mem_singleton.2 rfl))
   have b1 := bndI_ok (most := s.length) hh (by omega) hc.2.2
   have b2 := bndI_ok (most := hn.toNat) hl hc.1 (by omega)
   simp [aslice, hu, b1, b2]
  ·cases h
 ·rename_i e τ xs hu
  split at h
  ·rename_i hs
   split at h
   ·rename_i hn l hh hl
    simp only [Option.some.injEq, Prod.mk.injEq] at h
    obtain ⟨rfl, rfl⟩ := h
    have hc : 0 <= l /\ l <= hn /\ hn <= xs.length := of_decide_eq_true (hp _ (List.mem_singleton.2 rfl))
    have b1 := bndI_ok (most := xs.length) hh (by omega) hc.2.2
    have b2 := bndI_ok (most := hn.toNat) hl hc.1 (by omega)
    simp [aslice, hu, hs, mxB, b1, b2]
   ·cases h
  ·cases h
 ·rename_i e b s off len cap hu
  split at h
  ·rename_i hs
   split at h
   ·rename_i hn l hh hl
    simp only [Option.some.injEq, Prod.mk.injEq] at h
    obtain ⟨rfl, rfl⟩ := h
    have hc : 0 <= l /\ l <= hn /\ hn <= len /\ len <= cap.getD len := of_decide_eq_true (hp _ (List.mem_singleton.2 rfl))
    have b1 := bndI_ok (most := cap.getD len) hh (by omega) (by omega)
    have b2 := bndI_ok (most := hn.toNat) hl hc.1 (by omega)
    simp [aslice, hu, hs, mxB, b1, b2, newCap, addN_eq]
   ·cases h
  ·cases h
 ·cases h
def qIdxA (P : Program) (t : TypeId) (x i : AV) : QT :=
 match i with
 | .int _ n => match P.underlying t, x with
  | some (.slice e), .rl τ xs => if szOf P e = some τ.sz then some (.rp (τ.enc (xs.getD n.toNat τ.dflt)) 0, [decide (0 <= n /\ n < xs.length)]) else none
  | some (.slice e), .sl b s off len _ => if szOf P e = some s then some (.ptr b (addN off n.toNat) 0, [decide (0 <= n /\ n < len)]) else none
  | some (.array len e), .ptr b j o => match szOf P e with
   | some s => some (.ptr b j (addN o (mulN n.toNat s)), [decide (0 <= n /\ n < len)])
   | none => none
  | some (.array len e), .rp c o => match szOf P e with
   | some s => some (.rp c (addN o (mulN n.toNat s)), [decide (0 <= n /\ n < len)])
   | none => none
  | _, _ => none
 | _ => none
theorem getElem?_getD {α : Type} {xs : List α} {n : Nat} (d : α) (h : n < xs.length) : xs[n]? = some (xs.getD n d) := by
 rw [List.getElem?_eq_getElem h]; simp [List.getD_eq_getElem?_getD, h]
theorem qIdxA_ok {P : Program} {t : TypeId} {x i r : AV} {ps : List Bool} (h : qIdxA P t x i = some (r, ps)) (hp : ∀ p ∈ ps, p = true) : aindexAddr P t x i = some r := by
 unfold qIdxA at h
 split at h
 rotate_left
 ·cases h
 rename_i k n
 split at h
 ·rename_i e τ xs hu
  split at h
  ·rename_i hs
   simp only [Option.some.injEq, Prod.mk.injEq] at h
   obtain ⟨rfl, rfl⟩ := h
   have hc : 0 <= n /\ n < xs.length := of_decide_eq_true (hp _ (List.mem_singleton.2 rfl))
   have hneg : ¬ n < 0 := by omega
   have hg := getElem?_getD τ.dflt (show n.toNat < xs.length by omega)
   simp only [aindexAddr, asI, Option.bind_eq_bind, Option.bind_some, if_neg hneg, hu, hs, List.getElem?_map, hg, Option.map_some, Ty.enc_length, if_true]
  ·cases h
 ·rename_i e b s off len cap hu
  split at h
  ·rename_i hs
   simp only [Option.some.injEq, Prod.mk.injEq] at h
   obtain ⟨rfl, rfl⟩ := h
   have hc : 0 <= n /\ n < len := of_decide_eq_true (hp _ (List.mem_singleton.2 rfl))
   have hneg : ¬ n < 0 := by omega
   simp [aindexAddr, asI, hneg, hu, hs, hc.2, addN_eq]
  ·cases h
 ·rename_i len e b j o hu
  split at h
  ·rename_i s hs
   simp only [Option.some.injEq, Prod.mk.injEq] at h
   obtain ⟨rfl, rfl⟩ := h
   have hc : 0 <= n /\ n < len := of_decide_eq_true (hp _ (List.mem_singleton.2 rfl))
   have hneg : ¬ n < 0 := by omega
   simp only [aindexAddr, asI, Option.bind_eq_bind, Option.bind_some, if_neg hneg, hu, if_pos hc.2, hs, Option.map_some]
  ·cases h
 ·rename_i len e c o hu
  split at h
  ·rename_i s hs
   simp only [Option.some.injEq, Prod.mk.injEq] at h
   obtain ⟨rfl, rfl⟩ := h
   have hc : 0 <= n /\ n < len := of_decide_eq_true (hp _ (List.mem_singleton.2 rfl))
   have hneg : ¬ n < 0 := by omega
   simp only [aindexAddr, asI, Option.bind_eq_bind, Option.bind_some, if_neg hneg, hu, if_pos hc.2, hs, Option.map_some]
  ·cases h
 ·cases h
def qIdx (P : Program) (t : TypeId) (x i : AV) : QT :=
 match i with
 | .int _ n => match P.underlying t, x with
  | some .string, .str s => some (.int .u8 (s.getD n.toNat 0).toNat, [decide (0 <= n /\ n < s.length)])
  | some (.array len e), .ar τ xs => if szOf P e = some τ.sz then match rd P e (τ.enc (xs.getD n.toNat τ.dflt)) 0 with
   | some r => some (r, [decide (0 <= n /\ n < len), decide (n < xs.length)])
   | none => none
   else none
  | _, _ => none
 | _ => none
theorem qIdx_ok {P : Program} {t : TypeId} {x i r : AV} {ps : List Bool} (h : qIdx P t x i = some (r, ps)) (hp : ∀ p ∈ ps, p = true) : aindex P t x i = some r := by
 unfold qIdx at h
 split at h
 rotate_left
 ·cases h
 rename_i k n
 split at h
 ·rename_i s hu
  simp only [Option.some.injEq, Prod.mk.injEq] at h
  obtain ⟨rfl, rfl⟩ := h
  have hc : 0 <= n /\ n < s.length := of_decide_eq_true (hp _ (List.mem_singleton.2 rfl))
  have hneg : ¬ n < 0 := by omega
  have hg := getElem?_getD 0 (show n.toNat < s.length by omega)
  simp only [aindex, asI, Option.bind_eq_bind, Option.bind_some, if_neg hneg, hu, hg]
 ·rename_i len e τ xs hu
  split at h
  rotate_left
  ·cases h
  rename_i hs
  split at h
  rotate_left
  ·cases h
  rename_i r' hr
  simp only [Option.some.injEq, Prod.mk.injEq] at h
  obtain ⟨rfl, rfl⟩ := h
  have hc : 0 <= n /\ n < len := of_decide_eq_true (hp _ (by simp))
  have hc2 : n < xs.length := of_decide_eq_true (hp _ (by simp))
  have hneg : ¬ n < 0 := by omega
  have hg := getElem?_getD τ.dflt (show n.toNat < xs.length by omega)
  simp only [aindex, asI, Option.bind_eq_bind, Option.bind_some, if_neg hneg, hu]
  rw [if_pos ⟨hc.2, hs⟩, hg]
  exact hr
 ·cases h
def qLoad0 (P : Program) (t : TypeId) (a : AV) (H : Heap) : QT :=
 match a with
 | .ptr b i o => match H.get b with
  | some (.lst τ xs) => match P.underlying t with
   | none => none
   | some d => match isAggD d, τ.sz with
    | false, 1 => match rd P t (τ.enc (xs.getD (i + o) τ.dflt)) 0 with
     | some r => some (r, [decide (i + o < xs.length)])
     | none => none
    | _, _ => match d with
     | .array _ _ => match Nat.beq τ.sz 1 with
      | true => match i, o with
       | 0, 0 => match szOf P t with
        | some n => some (.ar τ xs, [decide (mulN xs.length τ.sz = n)])
        | none => none
       | _, _ => none
      | false => match rd P t (τ.enc (xs.getD i τ.dflt)) o with
       | some r => some (r, [decide (i < xs.length)])
       | none => none
     | _ => match rd P t (τ.enc (xs.getD i τ.dflt)) o with
      | some r => some (r, [decide (i < xs.length)])
      | none => none
  | _ => none
 | _ => none
theorem ldArr_other {P : Program} {t : TypeId} {x : AV} {H : Heap} {d : TypeDesc} (hu : P.underlying t = some d) (hd : ∀ n e, d ≠ .array n e) : ldArr P t x H = none := by
 unfold ldArr
 split
 ·split
  ·split
   ·rename_i h; rw [hu] at h; injection h with h; exact absurd h (hd _ _)
   ·rfl
  ·rfl
 ·rfl
theorem ldArr_not1 {P : Program} {t : TypeId} {b i o : Nat} {τ : Ty} {xs : List τ.den} {H : Heap} (hb : H.get b = some (.lst τ xs)) (h1 : ¬ τ.sz = 1) : ldArr P t (.ptr b i o) H = none := by
 unfold ldArr
 split
 ·rename_i b' he
  injection he with e1 e2 e3
  subst e1
  simp only [hb]
  split
  ·split
   ·rw [if_neg (fun h => h1 h.2)]
   ·rfl
  ·rfl
 ·rfl
theorem qLoad0_ok {P : Program} {t : TypeId} {a r : AV} {H : Heap} {ps : List Bool} (h : qLoad0 P t a H = some (r, ps)) (hp : ∀ p ∈ ps, p = true) : ald P t a H = some r := by
  unfold qLoad0 at h
  split at h
  rotate_left
  · cases h
  rename_i b i o
  split at h
  rotate_left
  · cases h
  rename_i τ xs hb
  split at h
  · cases h
  rename_i d hu
  have old : ldArr P t (.ptr b i o) H = none -> (match rd P t (τ.enc (xs.getD i τ.dflt)) o with
            | some r => some (r, [decide (i < xs.length)])
            | none => none) = some (r, ps) -> ald P t (.ptr b i o) H = some r := by
    intro hd h
    split at h
    · rename_i r' hr
      simp only [Option.some.injEq, Prod.mk.injEq] at h
      obtain ⟨rfl, rfl⟩ := h
      have hc : i < xs.length := of_decide_eq_true (hp _ (List.mem_singleton.2 rfl))
      have hg := getElem?_getD τ.dflt hc
      simp only [ald, hd, hb, asRow, Option.bind_eq_bind, Option.bind_some, List.getElem?_map, hg, Option.map_some, hr]
    · cases h
  split at h
  · rename_i hagg hsz
    split at h
    rotate_left
    · cases h
    rename_i r' hr
    simp only [Option.some.injEq, Prod.mk.injEq] at h
    obtain ⟨rfl, rfl⟩ := h
    have hc : i + o < xs.length := of_decide_eq_true (hp _ (List.mem_singleton.2 rfl))
    have hd : ∀ n e, d ≠ .array n e := fun n e h => by rw [h] at hagg; cases hagg
    have hg := getElem?_getD τ.dflt (show i < xs.length by omega)
    have rdc : ∀ (cs : List AV) (k : Nat), rd P t cs k = cs[k]? := fun cs k => by simp [rd, hu, hagg]
    rw [rdc] at hr
    have hfl : ((xs.map τ.enc).drop i).flatten[o]? = some r' := by
      rw [<- List.map_drop, flat_map]
      have := flatMap_at (f := τ.enc) (s := 1) (fun x => by rw [Ty.enc_length]; exact hsz) (xs := xs.drop i) (i := o) (j := 0) (by rw [List.getElem?_drop]; exact getElem?_getD τ.dflt hc) (by omega)
      rw [Nat.mul_one, Nat.add_zero] at this
      rw [this]; exact hr
    generalize xs.getD i τ.dflt = x0 at hg
    simp only [ald, ldArr_other hu hd, hb, asRow, Option.bind_eq_bind, Option.bind_some, List.getElem?_map, hg, Option.map_some]
    rw [rdc, rdc, hfl]
    split
    · rename_i q hq
      cases o with
      | zero =>
        rw [Nat.add_zero] at hr
        have hx0 : xs.getD i τ.dflt = x0 := by rw [List.getD_eq_getElem?_getD, hg]; rfl
        rw [hx0, hq] at hr; exact hr
      | succ o => rw [List.getElem?_eq_none (by rw [Ty.enc_length, hsz]; omega)] at hq; cases hq
    · split
      · rename_i q hq
        rw [hsz, Nat.div_one, Nat.mod_one, getElem?_getD τ.dflt hc] at hq
        simp only [Option.map_some, Option.bind_some, rdc] at hq
        rw [hr] at hq; exact hq.symm
      · rfl
  · split at h
    · split at h
      · rename_i h1
        have h1 : τ.sz = 1 := Nat.eq_of_beq_eq_true h1
        split at h
        · split at h
          · rename_i n hn
            simp only [Option.some.injEq, Prod.mk.injEq] at h
            obtain ⟨rfl, rfl⟩ := h
            have hc : mulN xs.length τ.sz = n := of_decide_eq_true (hp _ (List.mem_singleton.2 rfl))
            rw [mulN_eq, h1, Nat.mul_one] at hc
            simp [ald, ldArr, hb, hu, hn, hc, h1]
          · cases h
        · cases h
      · rename_i h1
        exact old (ldArr_not1 hb fun e => by rw [e] at h1; cases h1) h
    · rename_i hd
      exact old (ldArr_other hu hd) h
def nmA : AV -> Int
 | .int _ n => n
 | _ => 0
def isIA (k : IntKind) : AV -> Bool
 | .int k' _ => k' == k
 | _ => false
def selOk (k : IntKind) (c : List AV) (o : Nat) : Bool := match c[o]? with
 | some v => isIA k v
 | none => false
def selI (c : List AV) (o : Nat) : Int := (c.map nmA).getD o 0
def longRow : List AV -> Bool
 | _ :: _ :: _ :: _ :: _ :: _ :: _ :: _ :: _ :: _ :: _ :: _ :: _ => true
 | _ => false
def pickN (o j : Nat) (n m : Int) : Int := match Nat.beq o j with
 | true => n
 | false => m
theorem pickN_eq {o : Nat} {n m : Int} : pickN o o n m = n := by simp [pickN]
theorem pickN_ne {o j : Nat} {n m : Int} (h : o ≠ j) : pickN o j n m = m := by
 have : Nat.beq o j = false := by
  cases hb : Nat.beq o j with
  | false => rfl
  | true => exact absurd (Nat.eq_of_beq_eq_true hb) h
 simp [pickN, this]
def setI (o : Nat) (n : Int) : Nat -> List AV -> List AV
 | _, [] => []
 | j, v :: l => (match v with
  | .int k m => .int k (pickN o j n m)
  | v => v) :: setI o n (j + 1) l
theorem setI_over {o : Nat} {n : Int} : ∀ (l : List AV) (j : Nat), o < j -> setI o n j l = l
 | [], _, _ => rfl
 | v :: l, j, h => by
  unfold setI
  rw [setI_over l (j + 1) (by omega)]
  cases v with
  | int k m => simp only; rw [pickN_ne (by omega)]
  | _ => rfl
theorem setI_at {o : Nat} {n m : Int} {k : IntKind} : ∀ (l : List AV) (j : Nat), j <= o -> l[o - j]? = some (.int k m) -> setI o n j l = l.set (o - j) (.int k n)
 | [], _, _, h => by simp at h
 | v :: l, j, hj, h => by
  unfold setI
  by_cases e : j = o
  ·subst e
   rw [Nat.sub_self] at h ⊢
   simp only [List.getElem?_cons_zero, Option.some.injEq] at h
   subst h
   rw [setI_over l (j + 1) (by omega), List.set_cons_zero]
   simp only [pickN_eq]
  ·obtain ⟨d, hd⟩ : ∃ d, o - j = d + 1 := ⟨o - j - 1, by omega⟩
   have hd' : o - (j + 1) = d := by omega
   rw [hd, List.getElem?_cons_succ, <- hd'] at h
   rw [setI_at l (j + 1) (by omega) h, hd, List.set_cons_succ, hd']
   cases v with
   | int k' m' => simp only; rw [pickN_ne (by omega)]
   | _ => rfl
theorem sel_get {k : IntKind} {c : List AV} {o : Nat} (h : selOk k c o = true) : c[o]? = some (.int k (selI c o)) := by
 unfold selOk at h
 split at h
 ·rename_i v hv
  cases v with
  | int k' n =>
   have : k' = k := by simpa [isIA] using h
   subst this
   rw [hv]
   simp [selI, List.getD_eq_getElem?_getD, hv, nmA]
  | _ => cases h
 ·cases h
theorem setI_eq {k : IntKind} {c : List AV} {o : Nat} {n : Int} (h : selOk k c o = true) : setI o n 0 c = c.set o (.int k n) := by
 have := setI_at (n := n) c 0 (Nat.zero_le _) (by rw [Nat.sub_zero]; exact sel_get h)
 rw [this, Nat.sub_zero]
def qSel (P : Program) (t : TypeId) (a : AV) (H : Heap) : QT :=
 match P.underlying t with
 | some (.int k) => match a with
  | .ptr b i o => match H.get b with
   | some (.row _ es) => match es[i]? with
    | some c => if longRow c then some (.int k (selI c o), [selOk k c o]) else none
    | none => none
   | _ => none
  | .rp c o => if longRow c then some (.int k (selI c o), [selOk k c o]) else none
  | _ => none
 | _ => none
theorem qSel_ok {P : Program} {t : TypeId} {a r : AV} {H : Heap} {ps : List Bool} (h : qSel P t a H = some (r, ps)) (hp : ∀ p ∈ ps, p = true) : ald P t a H = some r := by
 unfold qSel at h
 split at h
 rotate_left
 ·cases h
 rename_i k hu
 have hd : ∀ n e, (TypeDesc.int k) ≠ .array n e := fun n e h => by cases h
 have rdc : ∀ (cs : List AV) (j : Nat), rd P t cs j = cs[j]? := fun cs j => by simp [rd, hu, isAggD]
 split at h
 ·rename_i b i o
  split at h
  ·rename_i s es hb
   split at h
   ·rename_i c hc
    split at h
    ·simp only [Option.some.injEq, Prod.mk.injEq] at h
     obtain ⟨rfl, rfl⟩ := h
     have hs := sel_get (hp _ (List.mem_singleton.2 rfl))
     simp only [ald, ldArr_other hu hd, hb, asRow, Option.bind_eq_bind, Option.bind_some, hc, rdc, hs]
    ·cases h
   ·cases h
  ·cases h
 ·rename_i c o
  split at h
  ·simp only [Option.some.injEq, Prod.mk.injEq] at h
   obtain ⟨rfl, rfl⟩ := h
   have hs := sel_get (hp _ (List.mem_singleton.2 rfl))
   simp only [ald, ldArr_other hu hd, rdc, hs]
  ·cases h
 ·cases h
def qLoad (P : Program) (t : TypeId) (a : AV) (H : Heap) : QT :=
 match qSel P t a H with
 | some r => some r
 | none => qLoad0 P t a H
theorem qLoad_ok {P : Program} {t : TypeId} {a r : AV} {H : Heap} {ps : List Bool} (h : qLoad P t a H = some (r, ps)) (hp : ∀ p ∈ ps, p = true) : ald P t a H = some r := by
 unfold qLoad at h
 split at h
 ·rename_i q hq
  injection h with h; subst h
  exact qSel_ok hq hp
 ·exact qLoad0_ok h hp
def eqT : (κ : Ty) -> κ.den -> κ.den -> Bool
 | .i _, a, b => (a : Int) == b
 | .s, a, b => (a : List UInt8) == b
 | .pr (.i _) y, a, b => (a.1 : Int) == b.1 && eqT y a.2 b.2
 | _, _, _ => false
def isIntT (P : Program) (t : TypeId) : Bool := match P.underlying t with | some (.int _) => true | _ => false
def twoInts (P : Program) : List Field -> Bool
 | [f, g] => decide (f.name ≠ "_") && decide (g.name ≠ "_") && Nat.beq f.offset 0 && Nat.beq g.offset 1 && isIntT P f.type && isIntT P g.type
 | _ => false
def chainLen (k : IntKind) : Ty -> Option Nat
 | .i k' => if k' = k then some 1 else none
 | .pr (.i k') y => if k' = k then (chainLen k y).map (· + 1) else none
 | _ => none
def chI : (y : Ty) -> y.den -> List Int
 | .i _, a => [a]
 | .pr (.i _) y, p => p.1 :: chI y p.2
 | _, _ => []
theorem chI_enc {k : IntKind} : ∀ (y : Ty) (n : Nat) (p : y.den), chainLen k y = some n -> y.enc p = (chI y p).map (AV.int k) /\ (chI y p).length = n
 | .i k', n, p, h => by
  unfold chainLen at h
  split at h
  ·rename_i e; subst e; injection h with h; subst h; exact ⟨rfl, rfl⟩
  ·cases h
 | .pr a y, n, p, h => by
  cases a <;> try (simp [chainLen] at h; done)
  unfold chainLen at h
  split at h
  ·rename_i e
   subst e
   simp only [Option.map_eq_some_iff] at h
   obtain ⟨m, hm, rfl⟩ := h
   obtain ⟨h1, h2⟩ := chI_enc y m p.2 hm
   exact ⟨by simp [Ty.enc, chI, h1], by simp [chI, h2]⟩
  ·cases h
 | .b, n, p, h => by simp [chainLen] at h
 | .s, n, p, h => by simp [chainLen] at h
 | .sl _, n, p, h => by simp [chainLen] at h
 | .ar _ _, n, p, h => by simp [chainLen] at h
 | .mp _ _, n, p, h => by simp [chainLen] at h
 | .so _, n, p, h => by simp [chainLen] at h
theorem chI_eq {k : IntKind} : ∀ (y : Ty) (n : Nat) (p q : y.den), chainLen k y = some n -> eqT y p q = decide (chI y p = chI y q) /\ (chI y p = chI y q -> p = q)
 | .i k', n, p, q, h => by
  have p' : Int := p
  refine ⟨?_, fun h => by simpa [chI] using h⟩
  show ((p : Int) == q) = decide ([(p : Int)] = [q])
  by_cases e : (p : Int) = q
  ·simp [e]
  ·simp [e]
 | .pr a y, n, p, q, h => by
  cases a <;> try (simp [chainLen] at h; done)
  unfold chainLen at h
  split at h
  ·simp only [Option.map_eq_some_iff] at h
   obtain ⟨m, hm, rfl⟩ := h
   obtain ⟨h1, h2⟩ := chI_eq y m p.2 q.2 hm
   refine ⟨?_, fun e => ?_⟩
   ·show ((p.1 : Int) == q.1 && eqT y p.2 q.2) = decide ((p.1 : Int) :: chI y p.2 = q.1 :: chI y q.2)
    rw [h1]
    by_cases e : (p.1 : Int) = q.1 <;> by_cases e2 : chI y p.2 = chI y q.2 <;> simp [e, e2]
   ·have e : (p.1 : Int) :: chI y p.2 = q.1 :: chI y q.2 := e
    injection e with e1 e2
    exact Prod.ext e1 (h2 e2)
  ·cases h
 | .b, n, p, q, h => by simp [chainLen] at h
 | .s, n, p, q, h => by simp [chainLen] at h
 | .sl _, n, p, q, h => by simp [chainLen] at h
 | .ar _ _, n, p, q, h => by simp [chainLen] at h
 | .mp _ _, n, p, q, h => by simp [chainLen] at h
 | .so _, n, p, q, h => by simp [chainLen] at h
def keyTy (P : Program) (kt : TypeId) (κ : Ty) : Bool :=
 match κ with
 | .i _ => (match P.underlying kt with | some (.int _) => true | _ => false)
 | .s => (match P.underlying kt with | some .string => true | _ => false)
 | .pr (.i j) y => (match P.underlying kt with
  | some (.struct fs) => (match y with | .i _ => !P.stoodInHeld kt && twoInts P fs.toList | _ => false)
  | some (.array len e) => (match P.underlying e with | some (.int _) => (match szOf P e with | some 1 => (match chainLen j y with | some n => Nat.beq (n + 1) len | none => false) | _ => false) | _ => false)
  | _ => false)
 | _ => false
def keyCs : (κ : Ty) -> List AV -> Option κ.den
 | .i k, cs => (match cs with | [v] => (match v with | .int k' n => if k' = k then some n else none | _ => none) | _ => none)
 | .pr (.i j) y, cs => (match cs with | v :: cs => (match v with | .int j' m => if j' = j then (match keyCs y cs with | some r => some (m, r) | none => none) else none | _ => none) | _ => none)
 | _, _ => none
theorem keyCs_enc : ∀ {κ : Ty} {cs : List AV} {k : κ.den}, keyCs κ cs = some k -> cs = κ.enc k
 | .i k, cs, n, h => by
  unfold keyCs at h
  repeat' (split at h <;> try (cases h; done))
  rename_i e
  injection h with h; subst e h; rfl
 | .pr a y, cs, p, h => by
  cases a <;> try (simp [keyCs] at h; done)
  unfold keyCs at h
  split at h
  ·split at h
   ·split at h
    ·rename_i e
     subst e
     split at h
     ·rename_i r hr
      injection h with h; subst h
      have := keyCs_enc hr
      subst this
      rfl
     ·cases h
    ·cases h
   ·cases h
  ·cases h
 | .b, cs, n, h => by simp [keyCs] at h
 | .s, cs, n, h => by simp [keyCs] at h
 | .sl _, cs, n, h => by simp [keyCs] at h
 | .ar _ _, cs, n, h => by simp [keyCs] at h
 | .mp _ _, cs, n, h => by simp [keyCs] at h
 | .so _, cs, n, h => by simp [keyCs] at h
def keyD : (κ : Ty) -> AV -> Option κ.den
 | .i k, x => (match x with | .int k' n => if k' = k then some n else none | _ => none)
 | .s, x => (match x with | .str s => some s | _ => none)
 | .b, x => (match x with | .bool b => some b | _ => none)
 | .pr a y, x => (match x with | .agg cs => keyCs (.pr a y) cs | _ => none)
 | _, _ => none
theorem keyD_val : ∀ {κ : Ty} {x : AV} {k : κ.den}, keyD κ x = some k -> x = κ.val k
 | .i k, x, n, h => by
  cases x <;> simp only [keyD, reduceCtorEq] at h
  split at h
  ·rename_i e; injection h with h; subst e h; rfl
  ·cases h
 | .s, x, n, h => by
  cases x <;> simp only [keyD, reduceCtorEq, Option.some.injEq] at h
  subst h; rfl
 | .b, x, n, h => by
  cases x <;> simp only [keyD, reduceCtorEq, Option.some.injEq] at h
  subst h; rfl
 | .sl _, x, n, h => by simp [keyD] at h
 | .pr a c, x, n, h => by
  cases x <;> simp only [keyD, reduceCtorEq] at h
  have := keyCs_enc h
  subst this
  rfl
 | .ar _ _, x, n, h => by simp [keyD] at h
 | .mp _ _, x, n, h => by simp [keyD] at h
 | .so _, x, n, h => by simp [keyD] at h
theorem isIntT_some {P : Program} {t : TypeId} (h : isIntT P t = true) : ∃ q, P.underlying t = some (.int q) := by
 unfold isIntT at h
 split at h
 ·rename_i q hu; exact ⟨q, hu⟩
 ·cases h
theorem keyEq_pr {P : Program} {kt : TypeId} {j k : IntKind} {fs : Array Field} (hu : P.underlying kt = some (.struct fs)) (h : (!P.stoodInHeld kt && twoInts P fs.toList) = true) (a b : Int × Int) : keyEq P kt (.agg [.int j a.1, .int k a.2]) (.agg [.int j b.1, .int k b.2]) = some (a.1 == b.1 && a.2 == b.2) /\ keyOk P 10000 kt (.agg [.int j a.1, .int k a.2]) = true := by
 rw [Bool.and_eq_true] at h
 obtain ⟨hst, h2⟩ := h
 have hst : P.stoodInHeld kt = false := by simpa using hst
 unfold twoInts at h2
 split at h2
 rotate_left
 ·cases h2
 rename_i f g hfg
 simp only [Bool.and_eq_true, decide_eq_true_eq] at h2
 obtain ⟨⟨⟨⟨⟨n1, n2⟩, o1⟩, o2⟩, i1⟩, i2⟩ := h2
 have o1 := Nat.eq_of_beq_eq_true o1
 have o2 := Nat.eq_of_beq_eq_true o2
 obtain ⟨q1, u1⟩ := isIntT_some i1
 obtain ⟨q2, u2⟩ := isIntT_some i2
 have rd1 : ∀ x y : AV, rd P f.type [x, y] f.offset = some x := fun x y => by simp [rd, u1, isAggD, o1]
 have rd2 : ∀ x y : AV, rd P g.type [x, y] g.offset = some y := fun x y => by simp [rd, u2, isAggD, o2]
 have e1 : aeqIn P 9999 f.type (.int j a.1) (.int j b.1) = some (a.1 == b.1) := by unfold aeqIn; rw [u1]; simp
 have e2 : aeqIn P 9999 g.type (.int k a.2) (.int k b.2) = some (a.2 == b.2) := by unfold aeqIn; rw [u2]; simp
 refine ⟨?_, ?_⟩
 ·unfold keyEq aeqIn
  rw [hu]
  simp only [hst, Bool.false_eq_true, if_false, hfg, eqFs, n1, n2, rd1, rd2, Option.bind_eq_bind, Option.bind_some, e1, e2]
  cases a.1 == b.1 <;> cases a.2 == b.2 <;> rfl
 ·unfold keyOk
  rw [hu]
  simp only [hfg, List.all_cons, List.all_nil, rd1, rd2, Bool.and_true, Bool.and_eq_true, Bool.or_eq_true]
  refine ⟨.inr ?_, .inr ?_⟩
  ·unfold keyOk; rw [u1]
  ·unfold keyOk; rw [u2]
theorem all_enc1 : ∀ (l : List Int) (k : IntKind), ((l.map (AV.int k)).zip (l.map (AV.int k))).all (fun p => sameK1 p.1 p.2) = true
 | [], _ => rfl
 | a :: l, k => by
  simp only [List.map_cons, List.zip_cons_cons, List.all_cons, all_enc1 l k, Bool.and_true]
  simp [sameK1]
theorem keyEq_ar {P : Program} {kt e : TypeId} {q : IntKind} {len : Nat} (hu : P.underlying kt = some (.array len e)) (he : P.underlying e = some (.int q)) (hs : szOf P e = some 1) {k : IntKind} {xs ys : List Int} (hx : xs.length = len) (hy : ys.length = len) :
  keyEq P kt (.agg (xs.map (AV.int k))) (.agg (ys.map (AV.int k))) = some (decide (xs = ys)) /\ keyOk P 10000 kt (.agg (xs.map (AV.int k))) = true := by
 have at1 : ∀ (zs : List Int) (i : Nat) (hi : i < zs.length), rd P e (zs.map (AV.int k)) (i * 1) = some (.int k zs[i]) := fun zs i hi => by simp [rd, he, isAggD, hi]
 have go : ∀ (m i : Nat), i + m = xs.length -> eqIs P (aeqIn P 9999) e 1 (xs.map (AV.int k)) (ys.map (AV.int k)) (List.range' i m) = some (decide (xs.drop i = ys.drop i)) := by
  intro m
  induction m with
  | zero =>
   intro i hi
   simp only [List.range'_zero, eqIs]
   rw [List.drop_of_length_le (by omega), List.drop_of_length_le (by omega)]; simp
  | succ m ih =>
   intro i hi
   have h1 : i < xs.length := by omega
   have h2 : i < ys.length := by omega
   have r3 : aeqIn P 9999 e (.int k xs[i]) (.int k ys[i]) = some (xs[i] == ys[i]) := by unfold aeqIn; rw [he]; simp
   rw [List.range'_succ, eqIs, at1 xs i h1, at1 ys i h2]
   simp only [Option.bind_eq_bind, Option.bind_some, r3]
   rw [ih (i + 1) (by omega), List.drop_eq_getElem_cons h1, List.drop_eq_getElem_cons h2]
   generalize xs.drop (i + 1) = p
   generalize ys.drop (i + 1) = q
   generalize xs[i] = a
   generalize ys[i] = c
   by_cases he : a = c
   ·simp [he]
   ·simp [he]
 refine ⟨?_, ?_⟩
 ·unfold keyEq aeqIn
  rw [hu]
  simp only [hs, Option.bind_some, List.range_eq_range']
  rw [go len 0 (by omega)]
  simp
 ·unfold keyOk
  rw [hu]
  simp only [hs, List.all_eq_true]
  intro i hi
  have hi : i < xs.length := by rw [hx]; simpa using hi
  rw [at1 xs i hi]
  show keyOk P 9999 e _ = true
  unfold keyOk; rw [he]
theorem keyEq_ty {P : Program} {kt : TypeId} : ∀ {κ : Ty}, keyTy P kt κ = true -> ∀ a b : κ.den, keyEq P kt (κ.val a) (κ.val b) = some (eqT κ a b) /\ keyOk P 10000 kt (κ.val a) = true /\ (eqT κ a b = true -> a = b) /\ (eqT κ a b = true -> sameK (κ.val b) (κ.val a) = true)
 | .i k, h, a, b => by
  simp only [keyTy] at h
  split at h
  ·rename_i q hu
   refine ⟨?_, ?_, fun e => ?_, fun e => ?_⟩
   ·simp [keyEq, aeqIn, hu, Ty.val, eqT]
   ·simp [keyOk, hu]
   ·simpa [eqT] using e
   ·have e : a = b := by simpa [eqT] using e
    subst e; simp [sameK, sameK1, Ty.val]
  ·cases h
 | .s, h, a, b => by
  simp only [keyTy] at h
  split at h
  ·rename_i hu
   refine ⟨?_, ?_, fun e => ?_, fun e => ?_⟩
   ·simp [keyEq, aeqIn, hu, Ty.val, eqT]
   ·simp [keyOk, hu]
   ·simpa [eqT] using e
   ·have e : a = b := by simpa [eqT] using e
    subst e; simp [sameK, sameK1, Ty.val]
  ·cases h
 | .b, h, _, _ => by simp [keyTy] at h
 | .sl _, h, _, _ => by simp [keyTy] at h
 | .pr x y, h, a, b => by
  cases x <;> try (simp [keyTy] at h; done)
  rename_i j
  simp only [keyTy] at h
  split at h
  ·rename_i fs hu
   split at h
   ·rename_i k
    obtain ⟨h1, h2⟩ := keyEq_pr (j := j) (k := k) hu h a b
    have he : eqT (.pr (.i j) (.i k)) a b = true -> a = b := fun e => by
     have e : ((a.1 : Int) == b.1 && (a.2 : Int) == b.2) = true := e
     simp only [Bool.and_eq_true, beq_iff_eq] at e
     exact Prod.ext e.1 e.2
    refine ⟨h1, h2, he, fun e => ?_⟩
    have := he e
    subst this
    show sameK (.agg [.int j a.1, .int k a.2]) (.agg [.int j a.1, .int k a.2]) = true
    simp [sameK, sameK1]
   ·cases h
  ·rename_i len e hu
   split at h
   rotate_left
   ·cases h
   rename_i q he
   split at h
   rotate_left
   ·cases h
   rename_i hs
   split at h
   rotate_left
   ·cases h
   rename_i n hn
   have hlen := Nat.eq_of_beq_eq_true h
   have hc : chainLen j (.pr (.i j) y) = some (n + 1) := by simp [chainLen, hn]
   obtain ⟨a1, a2⟩ := chI_enc _ _ a hc
   obtain ⟨b1, b2⟩ := chI_enc _ _ b hc
   obtain ⟨c1, c2⟩ := chI_eq _ _ a b hc
   have va : Ty.val (.pr (.i j) y) a = .agg ((chI (.pr (.i j) y) a).map (AV.int j)) := by rw [<- a1]; rfl
   have vb : Ty.val (.pr (.i j) y) b = .agg ((chI (.pr (.i j) y) b).map (AV.int j)) := by rw [<- b1]; rfl
   obtain ⟨k1, k2⟩ := keyEq_ar (k := j) hu he hs (a2.trans hlen) (b2.trans hlen)
   rw [va, vb]
   refine ⟨by rw [c1]; exact k1, k2, fun e => c2 (by rw [c1] at e; exact of_decide_eq_true e), fun e => ?_⟩
   have e := c2 (by rw [c1] at e; exact of_decide_eq_true e)
   subst e
   simp only [sameK, beq_self_eq_true, Bool.true_and]
   exact all_enc1 _ _
  ·cases h
 | .ar _ _, h, _, _ => by simp [keyTy] at h
 | .mp _ _, h, _, _ => by simp [keyTy] at h
 | .so _, h, _, _ => by simp [keyTy] at h
def tmFind (κ : Ty) {β : Type} (k : κ.den) : List (κ.den × β) -> Nat -> Option (Nat × β)
 | [], _ => none
 | (x, v) :: l, i => if eqT κ k x = true then some (i, v) else tmFind κ k l (i + 1)
def tmGet (κ : Ty) {β : Type} (l : List (κ.den × β)) (k : κ.den) : Option β := (tmFind κ k l 0).map (·.2)
def tmPut (κ : Ty) {β : Type} (l : List (κ.den × β)) (k : κ.den) (v : β) : List (κ.den × β) := match tmFind κ k l 0 with
 | some (i, _) => l.set i (k, v)
 | none => l ++ [(k, v)]
theorem findK_ty {P : Program} {kt : TypeId} {κ ν : Ty} (h : keyTy P kt κ = true) (k : κ.den) : ∀ (l : List (κ.den × ν.den)) (i : Nat), findK P kt (κ.val k) (encM κ ν l) i = some ((tmFind κ k l i).map fun p => (p.1, ν.val p.2))
 | [], i => rfl
 | (x, v) :: l, i => by
  have ih := findK_ty h k l (i + 1)
  simp only [encM, List.map_cons] at ih ⊢
  simp only [findK, (keyEq_ty h k x).1, Option.bind_eq_bind, Option.bind_some, tmFind]
  split
  ·rfl
  ·exact ih
def lookV (ok : Bool) (ν : Ty) (o : Option ν.den) (z : ν.den) : AV := match ok with
 | true => .tup [ν.val (o.getD z), .bool o.isSome]
 | false => ν.val (o.getD z)
def qLookL (P : Program) (t : TypeId) (k : AV) (ok : Bool) (κ ν : Ty) (l : List (κ.den × ν.den)) : QT :=
 match mapT P t with
 | some (kt, et) => match keyTy P kt κ with
  | true => match keyD κ k, (zeroOf P et).bind (keyD ν) with
   | some key, some z => some (lookV ok ν (tmGet κ l key) z, [])
   | _, _ => none
  | false => none
 | none => none
def qLook (P : Program) (t : TypeId) (x k : AV) (ok : Bool) (H : Heap) : QT :=
 match x with
 | .mp b => match H.get b with
  | some (.tm κ ν l) => qLookL P t k ok κ ν l
  | _ => none
 | .rt κ ν l => qLookL P t k ok κ ν l
 | _ => none
theorem qLookL_ok {P : Program} {t : TypeId} {x k r : AV} {ok : Bool} {H : Heap} {κ ν : Ty} {l : List (κ.den × ν.den)} {ps : List Bool} (hx : ∀ k ok, alookup P t x k ok H = alookup0 P t x k ok H) (hl : entriesOf H x = some (encM κ ν l)) (h : qLookL P t k ok κ ν l = some (r, ps)) : alookup P t x k ok H = some r := by
 unfold qLookL at h
 split at h
 rotate_left
 ·cases h
 rename_i kt et hmt
 split at h
 rotate_left
 ·cases h
 rename_i hkt
 split at h
 rotate_left
 ·cases h
 rename_i key z hk hz
 simp only [Option.some.injEq, Prod.mk.injEq] at h
 obtain ⟨rfl, _⟩ := h
 have hk := keyD_val hk
 subst hk
 simp only [Option.bind_eq_some_iff] at hz
 obtain ⟨zv, hz1, hz2⟩ := hz
 have hz2 := keyD_val hz2
 subst hz2
 have hfk := findK_ty (ν := ν) hkt key l 0
 have hko := (keyEq_ty hkt key key).2.1
 rw [hx]
 simp only [alookup0, hmt, hl, hko, hfk, Option.bind_eq_bind, Option.bind_some]
 unfold tmGet lookV
 cases tmFind κ key l 0 with
 | none => cases ok <;> simp [hz1]
 | some p => cases ok <;> simp
theorem qLook_ok {P : Program} {t : TypeId} {x k r : AV} {ok : Bool} {H : Heap} {ps : List Bool} (h : qLook P t x k ok H = some (r, ps)) : alookup P t x k ok H = some r := by
 unfold qLook at h
 split at h
 ·rename_i b
  split at h
  ·rename_i κ ν l hb
   exact qLookL_ok (fun _ _ => rfl) (by simp [entriesOf, hb, asMp]) h
  ·cases h
 ·exact qLookL_ok (fun _ _ => rfl) rfl h
 ·cases h
def qT (P : Program) (op : Op) (F : Fr) (H : Heap) : QT :=
 match op with
 | .binOp o t x y _ => qBin P o t x y (ev F x) (ev F y)
 | .unOp o _ x => qUn o (ev F x)
 | .convert s d x => qConv P s d (ev F x) H
 | .slice t x lo hi mx => qSlice P t (ev F x) (lo.map (ev F)) (hi.map (ev F)) (mx.map (ev F))
 | .indexAddr t x i => qIdxA P t (ev F x) (ev F i)
 | .index t x i => qIdx P t (ev F x) (ev F i)
 | .load t a => qLoad P t (ev F a) H
 | .lookup t x k ok => qLook P t (ev F x) (ev F k) ok H
 | _ => none
theorem qT_ok {P : Program} {op : Op} {F : Fr} {H : Heap} {r : AV} {ps : List Bool} (h : qT P op F H = some (r, ps)) (hp : ∀ p ∈ ps, p = true) : aq P op F H = some r := by
 unfold qT at h
 split at h
 ·exact qBin_ok h hp
 ·exact qUn_ok h hp
 ·exact qConv_ok h hp
 ·exact qSlice_ok h hp
 ·exact qIdxA_ok h hp
 ·exact qIdx_ok h hp
 ·exact qLoad_ok h hp
 ·exact qLook_ok h
 ·cases h
def pickK (t : Bool) (x y : AV) (K : AV -> Prop) : Prop :=
 match x, y with
 | .bool p, .bool q => K (.bool (bsel t p q))
 | _, _ => fork t (K x) (K y)
theorem pickK_ok {t : Bool} {x y : AV} {K : AV -> Prop} (h : pickK t x y K) : K (if t then x else y) := by
 unfold pickK at h
 split at h
 ·cases t <;> exact h
 ·cases t <;> exact h
def lookN (P : Program) (t : TypeId) (ok : Bool) : Option AV := do
 let (_, et) <- mapT P t
 let z <- zeroOf P et
 some (if ok then .tup [z, .bool false] else z)
def lookKs (P : Program) (t : TypeId) (ok : Bool) (es : List (AV × AV)) (ik : IntKind) (i : Int) : List (AV × AV) -> (AV -> Prop) -> Prop
 | [], K => optK (lookN P t ok) K
 | e :: l, K => match e.1 with
  | .int jk j => match decide (jk = ik) with
   | true => fork (i == j) (optK (alookupR P t es (.int ik j) ok) K) (lookKs P t ok es ik i l K)
   | false => False
  | _ => False
theorem findU_none {P : Program} {kt : TypeId} {k : AV} : ∀ {es : List (AV × AV)}, (∀ e ∈ es, keyEq P kt k e.1 = some false) -> findU P kt k es = some none
 | [], _ => rfl
 | (x, v) :: es, h => by
  have h1 := h (x, v) (List.mem_cons_self ..)
  have h2 := findU_none (P := P) (kt := kt) (k := k) (es := es) fun e he => h e (List.mem_cons_of_mem _ he)
  simp only at h1
  simp [findU, h1, h2]
theorem lookKs_ok {P : Program} {t kt et : TypeId} {ok : Bool} {es : List (AV × AV)} {ik : IntKind} {i : Int} {K : AV -> Prop} (hm : mapT P t = some (kt, et)) (hk : keyTy P kt (.i ik) = true) :
  ∀ {l : List (AV × AV)}, (∀ e ∈ es, e ∈ l \/ ∃ j, e.1 = .int ik j /\ i ≠ j) -> lookKs P t ok es ik i l K -> ∃ r, alookupR P t es (.int ik i) ok = some r /\ K r
 | [], he, h => by
  unfold lookKs at h
  obtain ⟨r, hr, hK⟩ := optK_iff.1 h
  refine ⟨r, ?_, hK⟩
  have hko : keyOk P 10000 kt (.int ik i) = true := (keyEq_ty (κ := .i ik) hk i i).2.1
  have hf : findU P kt (.int ik i) es = some none := findU_none fun e hx => by
   rcases he e hx with h1 | ⟨j, h1, h2⟩
   ·cases h1
   ·rw [h1]
    have := (keyEq_ty (κ := .i ik) hk i j).1
    have hne : eqT (.i ik) i j = false := by simpa [eqT] using h2
    rw [hne] at this
    exact this
  unfold lookN at hr
  simp only [hm, Option.bind_eq_bind, Option.bind_some] at hr
  unfold alookupR
  simp only [hm, hko, hf, Option.bind_eq_bind, Option.bind_some]
  simpa using hr
 | e :: l, he, h => by
  unfold lookKs at h
  split at h
  ·rename_i jk j hj
   split at h
   rotate_left
   ·exact h.elim
   rename_i hjk
   have hjk := of_decide_eq_true hjk
   subst hjk
   rw [fork_iff] at h
   cases hb : (i == j) with
   | true =>
    have : i = j := by simpa using hb
    subst this
    exact optK_iff.1 (h.1 hb)
   | false =>
    have hne : i ≠ j := by simpa using hb
    refine lookKs_ok hm hk (fun e' hx => ?_) (h.2 hb)
    rcases he e' hx with h1 | h1
    ·rcases List.mem_cons.1 h1 with h2 | h2
     ·exact .inr ⟨j, by rw [h2, hj], hne⟩
     ·exact .inl h2
    ·exact .inr h1
  ·exact h.elim
def lookK (P : Program) (t : TypeId) (es : List (AV × AV)) (k : AV) (ok : Bool) (D : Prop) (K : AV -> Prop) : Prop :=
 match k with
 | .int ik i => match mapT P t with
  | some (kt, _) => match keyTy P kt (.i ik) with
   | true => lookKs P t ok es ik i es K
   | false => D
  | none => D
 | _ => D
theorem lookK_ok {P : Program} {t : TypeId} {es : List (AV × AV)} {k : AV} {ok : Bool} {D : Prop} {K : AV -> Prop} (h : lookK P t es k ok D K) : D \/ ∃ r, alookupR P t es k ok = some r /\ K r := by
 unfold lookK at h
 split at h
 ·split at h
  ·rename_i kt et hm
   split at h
   ·rename_i hk
    exact .inr (lookKs_ok hm hk (fun e he => .inl he) h)
   ·exact .inl h
  ·exact .inl h
 ·exact .inl h
def xq0 (P : Program) (op : Op) (F : Fr) (H : Heap) (K : AV -> Prop) : Prop :=
 match qT P op F H with
 | some (r, ps) => allP ps (K r)
 | none => optK (aq P op F H) K
theorem xq0_ok {P : Program} {op : Op} {F : Fr} {H : Heap} {K : AV -> Prop} (h : xq0 P op F H K) : ∃ r, aq P op F H = some r /\ K r := by
 unfold xq0 at h
 split at h
 ·rename_i r ps hq
  rw [allP_iff] at h
  exact ⟨r, qT_ok hq h.1, h.2⟩
 ·exact optK_iff.1 h
def xq (P : Program) (op : Op) (F : Fr) (H : Heap) (K : AV -> Prop) : Prop :=
 match op with
 | .pick c a b => match ev F c with
  | .bool t => pickK t (ev F a) (ev F b) K
  | _ => False
 | .lookup t x k ok => match ev F x with
  | .rm es => lookK P t es (ev F k) ok (xq0 P (.lookup t x k ok) F H K) K
  | _ => xq0 P (.lookup t x k ok) F H K
 | op => xq0 P op F H K
theorem xq_ok {P : Program} {op : Op} {F : Fr} {H : Heap} {K : AV -> Prop} (h : xq P op F H K) : ∃ r, aq P op F H = some r /\ K r := by
 unfold xq at h
 split at h
 ·rename_i c a b
  split at h
  ·rename_i t ht
   exact ⟨_, by simp [aq, ht, asB], pickK_ok h⟩
  ·exact h.elim
 ·rename_i t x k ok
  split at h
  ·rename_i es hx
   rcases lookK_ok h with h | ⟨r, hr, hK⟩
   ·exact xq0_ok h
   ·exact ⟨r, by simp only [aq, alookup, hx]; exact hr, hK⟩
  ·exact xq0_ok h
 ·exact xq0_ok h
def xqN (nm : Bool) (P : Program) (op : Op) (F : Fr) (H : Heap) (K : AV -> Prop) : Prop :=
 match op with
 | .load t a => match nm with
  | true => match qSel P t (ev F a) H with
   | some (.int k n, ps) => allP ps (∀ x : Int, x = n -> K (.int k x))
   | _ => xq P (.load t a) F H K
  | false => xq P (.load t a) F H K
 | op => xq P op F H K
theorem xqN_ok {nm : Bool} {P : Program} {op : Op} {F : Fr} {H : Heap} {K : AV -> Prop} (h : xqN nm P op F H K) : ∃ r, aq P op F H = some r /\ K r := by
 unfold xqN at h
 split at h
 ·split at h
  ·split at h
   ·rename_i t a k n ps hq
    rw [allP_iff] at h
    exact ⟨_, by simp only [aq]; exact qSel_ok hq h.1, h.2 n rfl⟩
   ·exact xq_ok h
  ·exact xq_ok h
 ·exact xq_ok h
end Go.Lom
