/- Operations on unknown contents: what they yield, with the conditions. No conditions of its own. -/
import Derived.Test.YtnjaebjhfilljaaLomZB
set_option linter.unusedSimpArgs false
set_option linter.unusedVariables false
set_option linter.constructorNameAsVariable false
namespace Go.Lom
open Go.RowKit

def optK {α : Type} (o : Option α) (K : α → Prop) : Prop := match o with | some x => K x | none => False
theorem optK_iff {α : Type} {o : Option α} {K : α → Prop} : optK o K ↔ ∃ x, o = some x ∧ K x := by cases o <;> simp [optK]
def fork (b : Bool) (p q : Prop) : Prop := match b with | true => p | false => q
theorem fork_iff {b : Bool} {p q : Prop} : fork b p q ↔ (b = true → p) ∧ (b = false → q) := by cases b <;> simp [fork]
theorem fork_dec {c : Prop} [Decidable c] {p q : Prop} : fork (decide c) p q ↔ (c → p) ∧ (¬ c → q) := by rw [fork_iff, decide_eq_true_iff, decide_eq_false_iff_not]
def bsel (t p q : Bool) : Bool := match t with | true => p | false => q
theorem bsel_false (t p : Bool) : bsel t p false = (t && p) := by cases t <;> rfl
theorem bsel_true (t q : Bool) : bsel t true q = (t || q) := by cases t <;> rfl
def addN : Nat → Nat → Nat
  | 0, n => n
  | m + 1, n => m + 1 + n
theorem addN_eq (m n : Nat) : addN m n = m + n := by cases m <;> simp [addN]

/-! ### Numbers in range -/
def loK : IntKind → Int
  | .i8 => -128 | .i16 => -32768 | .i32 => -2147483648 | .i64 => -9223372036854775808
  | .u8 | .u16 | .u32 | .u64 => 0
def hiK : IntKind → Int
  | .i8 => 127 | .i16 => 32767 | .i32 => 2147483647 | .i64 => 9223372036854775807
  | .u8 => 255 | .u16 => 65535 | .u32 => 4294967295 | .u64 => 18446744073709551615
def inR (k : IntKind) (n : Int) : Bool := decide (loK k ≤ n) && decide (n ≤ hiK k)
theorem inR_iff {k : IntKind} {n : Int} : inR k n = true ↔ loK k ≤ n ∧ n ≤ hiK k := by simp [inR]
theorem inR_i64 {n : Int} : inR .i64 n = true ↔ -9223372036854775808 ≤ n ∧ n ≤ 9223372036854775807 := inR_iff
theorem wrap_in {k : IntKind} {n : Int} (h : inR k n = true) : k.wrap n = n := by
  rw [inR_iff] at h
  cases k <;> simp only [loK, hiK] at h <;> simp only [IntKind.wrap, IntKind.signed, IntKind.bits, Bool.true_and, Bool.false_and] <;> simp <;> omega

/-! ### Equality of composites, as one truth value -/
def beqFs (P : Program) (r : TypeId → AV → AV → Option Bool) (xs ys : List AV) : List Field → Option Bool
  | [] => some true
  | f :: fs => if f.name = "_" then beqFs P r xs ys fs else match rd P f.type xs f.offset, rd P f.type ys f.offset with
    | some a, some b => match r f.type a b, beqFs P r xs ys fs with
      | some c, some d => some (c && d)
      | _, _ => none
    | _, _ => none
def beqIs (P : Program) (r : TypeId → AV → AV → Option Bool) (e : TypeId) (n : Nat) (xs ys : List AV) : List Nat → Option Bool
  | [] => some true
  | i :: is => match rd P e xs (i * n), rd P e ys (i * n) with
    | some a, some b => match r e a b, beqIs P r e n xs ys is with
      | some c, some d => some (c && d)
      | _, _ => none
    | _, _ => none
def abeqIn (P : Program) : Nat → TypeId → AV → AV → Option Bool
  | 0, _, _, _ => none
  | d + 1, t, x, y => match P.underlying t, x, y with
    | some (.struct fs), .agg xs, .agg ys => if P.stoodInHeld t then none else beqFs P (abeqIn P d) xs ys fs.toList
    | some (.array len e), .agg xs, .agg ys => match szOf P e with
      | some n => beqIs P (abeqIn P d) e n xs ys (List.range len)
      | none => none
    | _, x, y => aeqIn P (d + 1) t x y

theorem beqFs_ok {P : Program} {r r' : TypeId → AV → AV → Option Bool} (hr : ∀ t a b c, r t a b = some c → r' t a b = some c) {xs ys : List AV} : ∀ (fs : List Field) (b : Bool), beqFs P r xs ys fs = some b → eqFs P r' xs ys fs = some b
  | [], b, h => h
  | f :: fs, b, h => by
    unfold beqFs at h
    unfold eqFs
    by_cases hn : f.name = "_"
    · rw [if_pos hn] at h ⊢; exact beqFs_ok hr fs b h
    · rw [if_neg hn] at h ⊢
      split at h
      · rename_i x y hx hy
        split at h
        · rename_i c d hc hd
          injection h with h; subst h
          simp only [hx, hy, hr _ _ _ _ hc, Option.bind_eq_bind, Option.bind_some]
          cases c with
          | true => simpa using beqFs_ok hr fs d hd
          | false => simp
        · cases h
      · cases h
theorem beqIs_ok {P : Program} {r r' : TypeId → AV → AV → Option Bool} (hr : ∀ t a b c, r t a b = some c → r' t a b = some c) {e : TypeId} {n : Nat} {xs ys : List AV} : ∀ (is : List Nat) (b : Bool), beqIs P r e n xs ys is = some b → eqIs P r' e n xs ys is = some b
  | [], b, h => h
  | i :: is, b, h => by
    unfold beqIs at h
    unfold eqIs
    split at h
    · rename_i x y hx hy
      split at h
      · rename_i c d hc hd
        injection h with h; subst h
        simp only [hx, hy, hr _ _ _ _ hc, Option.bind_eq_bind, Option.bind_some]
        cases c with
        | true => simpa using beqIs_ok hr is d hd
        | false => simp
      · cases h
    · cases h
theorem abeqIn_ok {P : Program} : ∀ (d : Nat) (t : TypeId) (x y : AV) (b : Bool), abeqIn P d t x y = some b → aeqIn P d t x y = some b
  | 0, _, _, _, _, h => by simp [abeqIn] at h
  | d + 1, t, x, y, b, h => by
    have ih := abeqIn_ok (P := P) d
    unfold abeqIn at h
    split at h
    · rename_i fs xs ys hu
      unfold aeqIn
      rw [hu]
      simp only
      split at h
      · cases h
      · rename_i hst
        rw [if_neg hst]
        exact beqFs_ok ih _ _ h
    · rename_i len e xs ys hu
      unfold aeqIn
      rw [hu]
      simp only
      split at h
      · rename_i n hn
        rw [hn]
        exact beqIs_ok ih _ _ h
      · cases h
    · exact h

/-! ### The operations -/
abbrev QT := Option (AV × List Bool)

def qBin (P : Program) (op : BinOp) (t : TypeId) (ox oy : Operand) (x y : AV) : QT :=
  match x, y with
  | .int k a, .int k' b => if k = k' then match op with
      | .add => some (.int k (a + b), [inR k (a + b)])
      | .sub => some (.int k (a - b), [inR k (a - b)])
      | .mul => some (.int k (a * b), [inR k (a * b)])
      | .quo => some (.int k (a.tdiv b), [decide (b ≠ 0), inR k (a.tdiv b)])
      | .rem => some (.int k (a.tmod b), [decide (b ≠ 0)])
      | .shl => some (.int k (a * 2 ^ (min b.toNat k.bits)), [decide (0 ≤ b), inR k (a * 2 ^ (min b.toNat k.bits))])
      | .shr => some (.int k (a.fdiv (2 ^ (min b.toNat k.bits))), [decide (0 ≤ b)])
      | _ => none
    else none
  | .str a, .str b => match op with
    | .add => some (.str (a ++ b), [decide (((a.length + b.length : Nat) : Int) ≤ 9223372036854775807)])
    | _ => none
  | .agg xs, .agg ys => match op with
    | .eql => if abin.guardOk P t ox oy (.agg xs) (.agg ys) then (abeqIn P 10000 t (.agg xs) (.agg ys)).map fun b => (.bool b, []) else none
    | .neq => if abin.guardOk P t ox oy (.agg xs) (.agg ys) then (abeqIn P 10000 t (.agg xs) (.agg ys)).map fun b => (.bool (!b), []) else none
    | _ => none
  | _, _ => none

theorem qBin_ok {P : Program} {op : BinOp} {t : TypeId} {ox oy : Operand} {x y r : AV} {ps : List Bool} (h : qBin P op t ox oy x y = some (r, ps)) (hp : ∀ p ∈ ps, p = true) : abin P op t ox oy x y = some r := by
  unfold qBin at h
  split at h
  · rename_i k a k' b
    split at h
    · rename_i hk
      subst hk
      split at h <;> simp only [Option.some.injEq, Prod.mk.injEq, reduceCtorEq] at h <;> obtain ⟨rfl, rfl⟩ := h
      · simp [abin, binI, wrap_in (hp _ (List.mem_singleton.2 rfl))]
      · simp [abin, binI, wrap_in (hp _ (List.mem_singleton.2 rfl))]
      · simp [abin, binI, wrap_in (hp _ (List.mem_singleton.2 rfl))]
      · have h1 : b ≠ 0 := of_decide_eq_true (hp _ (List.mem_cons_self ..))
        have h2 := wrap_in (hp (inR k (a.tdiv b)) (by simp))
        simp [abin, binI, h1, h2]
      · have h1 : b ≠ 0 := of_decide_eq_true (hp _ (List.mem_cons_self ..))
        simp [abin, binI, h1]
      · have h1 : 0 ≤ b := of_decide_eq_true (hp _ (List.mem_cons_self ..))
        have h2 := wrap_in (hp (inR k (a * 2 ^ (min b.toNat k.bits))) (by simp))
        have h3 : ¬ b < 0 := by omega
        simp only [abin, if_neg h3, h2]
      · have h1 : 0 ≤ b := of_decide_eq_true (hp _ (List.mem_cons_self ..))
        have h3 : ¬ b < 0 := by omega
        simp only [abin, if_neg h3]
    · cases h
  · rename_i a b
    split at h <;> simp only [Option.some.injEq, Prod.mk.injEq, reduceCtorEq] at h
    obtain ⟨rfl, rfl⟩ := h
    have h1 : ((a.length + b.length : Nat) : Int) ≤ 9223372036854775807 := of_decide_eq_true (hp _ (List.mem_cons_self ..))
    have h2 : ¬ ((a.length + b.length : Nat) : Int) > IntKind.i64.max := by simp [IntKind.max, IntKind.signed, IntKind.bits]; omega
    simp only [abin, binS, if_neg h2]
  · rename_i xs ys
    split at h
    · split at h
      · rename_i hg
        simp only [Option.map_eq_some_iff, Prod.mk.injEq] at h
        obtain ⟨b, hb, rfl, rfl⟩ := h
        simp [abin, hg, abeqIn_ok _ _ _ _ _ hb]
      · cases h
    · split at h
      · rename_i hg
        simp only [Option.map_eq_some_iff, Prod.mk.injEq] at h
        obtain ⟨b, hb, rfl, rfl⟩ := h
        simp [abin, hg, abeqIn_ok _ _ _ _ _ hb]
      · cases h
    · cases h
  · cases h

def qUn (op : UnOp) (x : AV) : QT :=
  match op, x with
  | .neg, .int k n => some (.int k (-n), [inR k (-n)])
  | _, _ => none
theorem qUn_ok {op : UnOp} {x r : AV} {ps : List Bool} (h : qUn op x = some (r, ps)) (hp : ∀ p ∈ ps, p = true) : aun op x = some r := by
  unfold qUn at h
  split at h
  · simp only [Option.some.injEq, Prod.mk.injEq] at h
    obtain ⟨rfl, rfl⟩ := h
    rename_i k n
    have h1 := wrap_in (hp (inR k (-n)) (by simp))
    simp [aun, h1]
  · cases h

def byteI (n : Int) : UInt8 := UInt8.ofNat n.toNat
def qConv (P : Program) (src dst : TypeId) (x : AV) (H : Heap) : QT :=
  match P.underlying src, P.underlying dst, x with
  | some _, some (.int k), .int _ n => some (.int k n, [inR k n])
  | some (.slice e), some .string, x => match P.underlying e with
    | some (.int .u8) => match elemsD H (.i .u8) ((Ty.i .u8).dec []) x with
      | some (bs, ps) => some (.str (bs.map byteI), ps)
      | none => none
    | _ => none
  | _, _, _ => none

theorem mapD_bytes : ∀ (es : List (List AV)) (bs : List Int) (ps : List Bool), mapD ((Ty.i .u8).dec []) es = some (bs, ps) → es = bs.map fun n => [.int .u8 n]
  | [], bs, ps, h => by simp only [mapD, Option.some.injEq, Prod.mk.injEq] at h; obtain ⟨rfl, _⟩ := h; rfl
  | e :: es, bs, ps, h => by
    simp only [mapD] at h
    split at h
    · rename_i x p hd
      split at h
      · rename_i xs q hm
        simp only [Option.some.injEq, Prod.mk.injEq] at h
        obtain ⟨rfl, _⟩ := h
        have hd : decI .u8 e = some (x, p) := hd
        unfold decI at hd
        split at hd
        · split at hd
          · rename_i hk
            simp only [Option.some.injEq, Prod.mk.injEq] at hd
            obtain ⟨rfl, _⟩ := hd
            subst hk
            rw [List.map_cons, ← mapD_bytes es xs q hm]
          · cases hd
        · cases hd
      · cases h
    · cases h
theorem mapM_byteOf : ∀ bs : List Int, (bs.map fun n => [AV.int .u8 n]).mapM byteOf = some (bs.map byteI)
  | [] => rfl
  | b :: bs => by
    rw [List.map_cons, List.mapM_cons, mapM_byteOf bs]
    rfl
theorem bytes_elems {H : Heap} {x : AV} {bs : List Int} {ps : List Bool} (he : elemsD H (.i .u8) ((Ty.i .u8).dec []) x = some (bs, ps)) (hp : ∀ p ∈ ps, p = true) : elems H x = some (bs.map fun n => [AV.int .u8 n]) := by
  have encs : ∀ zs : List Int, zs.map (Ty.enc (.i .u8)) = zs.map fun n => [AV.int .u8 n] := fun zs => rfl
  unfold elemsD at he
  split at he
  · simp only [Option.some.injEq, Prod.mk.injEq] at he; obtain ⟨rfl, rfl⟩ := he; rfl
  · simp only [Option.some.injEq, Prod.mk.injEq] at he; obtain ⟨rfl, rfl⟩ := he; rfl
  · split at he
    · rename_i ht
      subst ht
      simp only [Option.some.injEq, Prod.mk.injEq] at he; obtain ⟨rfl, rfl⟩ := he
      rfl
    · cases he
  · simp only [elems]; rw [mapD_bytes _ _ _ he]
  · rename_i b s off len cap
    split at he
    · split at he
      · rename_i t' xs hb
        split at he
        · rename_i ht
          subst ht
          simp only [Option.some.injEq, Prod.mk.injEq] at he; obtain ⟨rfl, rfl⟩ := he
          have hle : off + len ≤ xs.length := of_decide_eq_true (hp _ (List.mem_singleton.2 rfl))
          simp [elems, hb, asRow, seg, hle, List.map_take, List.map_drop, castL_self]
          rfl
        · cases he
      · rename_i s' es hb
        split at he
        · rename_i hle
          simp only [elems, hb, asRow, Option.bind_eq_bind, Option.bind_some]
          rw [if_pos hle, ← mapD_bytes _ _ _ he]; rfl
        · cases he
      · cases he
    · cases he
  · cases he
theorem qConv_ok {P : Program} {src dst : TypeId} {v r : AV} {H : Heap} {ps : List Bool} (h : qConv P src dst v H = some (r, ps)) (hp : ∀ p ∈ ps, p = true) : aconv P src dst v H = some r := by
  unfold qConv at h
  unfold aconv
  split at h
  · rename_i d1 k k2 n h1 h2
    simp only [Option.some.injEq, Prod.mk.injEq] at h
    obtain ⟨rfl, rfl⟩ := h
    simp [h1, h2, wrap_in (hp _ (List.mem_singleton.2 rfl))]
  · rename_i y e h1 h2
    split at h
    · rename_i h3
      split at h
      · rename_i bs ps' he
        simp only [Option.some.injEq, Prod.mk.injEq] at h
        obtain ⟨rfl, rfl⟩ := h
        have hel := bytes_elems he hp
        have e1 : ∀ u : AV, elems H u = some (bs.map fun n => [AV.int .u8 n]) → (match some (TypeDesc.slice e), some TypeDesc.string, u with
            | some _, some (.int k), .int _ n => some (AV.int k (k.wrap n))
            | some _, some .string, .str s => some (.str s)
            | some (.slice e), some .string, x => match P.underlying e with
              | some (.int .u8) => (do
                let es ← elems H x
                let bs ← es.mapM byteOf
                some (.str bs))
              | _ => none
            | _, _, _ => none) = some (.str (bs.map byteI)) := by
          intro u hu
          cases u <;> first | (simp [elems] at hu; done) | simp only [h3, hu, Option.bind_eq_bind, Option.bind_some, mapM_byteOf]
        rw [h1, h2]
        exact e1 _ hel
      · cases h
    · cases h
  · cases h

def bndI : Option AV → Int → Option Int
  | none, d => some d
  | some (.int _ n), _ => some n
  | _, _ => none
theorem bndI_ok {x : Option AV} {d : Nat} {n : Int} {most : Nat} (h : bndI x d = some n) (h0 : 0 ≤ n) (h1 : n ≤ most) : bnd x d most = some n.toNat := by
  unfold bndI at h
  split at h
  · injection h with h; subst h; simp [bnd]
  · injection h with h; subst h
    simp [bnd, asI, h0, h1]
  · cases h

def qSlice (P : Program) (t : TypeId) (x : AV) (lo hi mx : Option AV) : QT :=
  match mx with
  | some _ => none
  | none => match P.underlying t, x with
    | some .string, .str s => match bndI hi s.length, bndI lo (0 : Nat) with
      | some h, some l => some (.str ((s.take h.toNat).drop l.toNat), [decide (0 ≤ l ∧ l ≤ h ∧ h ≤ s.length)])
      | _, _ => none
    | some (.slice e), .rl τ xs => if szOf P e = some τ.sz then match bndI hi xs.length, bndI lo (0 : Nat) with
      | some h, some l => some (.rl τ ((xs.take h.toNat).drop l.toNat), [decide (0 ≤ l ∧ l ≤ h ∧ h ≤ xs.length)])
      | _, _ => none
      else none
    | some (.slice e), .sl b s off len cap => if szOf P e = some s then match bndI hi len, bndI lo (0 : Nat) with
      | some h, some l => some (.sl b s (addN off l.toNat) (h.toNat - l.toNat) (cap.map (· - l.toNat)), [decide (0 ≤ l ∧ l ≤ h ∧ h ≤ len ∧ len ≤ cap.getD len)])
      | _, _ => none
      else none
    | _, _ => none
theorem qSlice_ok {P : Program} {t : TypeId} {x r : AV} {lo hi mx : Option AV} {ps : List Bool} (h : qSlice P t x lo hi mx = some (r, ps)) (hp : ∀ p ∈ ps, p = true) : aslice P t x lo hi mx = some r := by
  unfold qSlice at h
  split at h
  · cases h
  split at h
  · rename_i s hu
    split at h
    · rename_i hn l hh hl
      simp only [Option.some.injEq, Prod.mk.injEq] at h
      obtain ⟨rfl, rfl⟩ := h
      have hc : 0 ≤ l ∧ l ≤ hn ∧ hn ≤ s.length := of_decide_eq_true (hp _ (List.mem_singleton.2 rfl))
      have b1 := bndI_ok (most := s.length) hh (by omega) hc.2.2
      have b2 := bndI_ok (most := hn.toNat) hl hc.1 (by omega)
      simp [aslice, hu, b1, b2]
    · cases h
  · rename_i e τ xs hu
    split at h
    · rename_i hs
      split at h
      · rename_i hn l hh hl
        simp only [Option.some.injEq, Prod.mk.injEq] at h
        obtain ⟨rfl, rfl⟩ := h
        have hc : 0 ≤ l ∧ l ≤ hn ∧ hn ≤ xs.length := of_decide_eq_true (hp _ (List.mem_singleton.2 rfl))
        have b1 := bndI_ok (most := xs.length) hh (by omega) hc.2.2
        have b2 := bndI_ok (most := hn.toNat) hl hc.1 (by omega)
        simp [aslice, hu, hs, mxB, b1, b2]
      · cases h
    · cases h
  · rename_i e b s off len cap hu
    split at h
    · rename_i hs
      split at h
      · rename_i hn l hh hl
        simp only [Option.some.injEq, Prod.mk.injEq] at h
        obtain ⟨rfl, rfl⟩ := h
        have hc : 0 ≤ l ∧ l ≤ hn ∧ hn ≤ len ∧ len ≤ cap.getD len := of_decide_eq_true (hp _ (List.mem_singleton.2 rfl))
        have b1 := bndI_ok (most := cap.getD len) hh (by omega) (by omega)
        have b2 := bndI_ok (most := hn.toNat) hl hc.1 (by omega)
        simp [aslice, hu, hs, mxB, b1, b2, newCap, addN_eq]
      · cases h
    · cases h
  · cases h

def qIdxA (P : Program) (t : TypeId) (x i : AV) : QT :=
  match i with
  | .int _ n => match P.underlying t, x with
    | some (.slice e), .rl τ xs => if szOf P e = some τ.sz then some (.rp (τ.enc (xs.getD n.toNat τ.dflt)) 0, [decide (0 ≤ n ∧ n < xs.length)]) else none
    | some (.slice e), .sl b s off len _ => if szOf P e = some s then some (.ptr b (addN off n.toNat) 0, [decide (0 ≤ n ∧ n < len)]) else none
    | _, _ => none
  | _ => none
theorem getElem?_getD {α : Type} {xs : List α} {n : Nat} (d : α) (h : n < xs.length) : xs[n]? = some (xs.getD n d) := by
  rw [List.getElem?_eq_getElem h]; simp [List.getD_eq_getElem?_getD, h]
theorem qIdxA_ok {P : Program} {t : TypeId} {x i r : AV} {ps : List Bool} (h : qIdxA P t x i = some (r, ps)) (hp : ∀ p ∈ ps, p = true) : aindexAddr P t x i = some r := by
  unfold qIdxA at h
  split at h
  rotate_left
  · cases h
  rename_i k n
  split at h
  · rename_i e τ xs hu
    split at h
    · rename_i hs
      simp only [Option.some.injEq, Prod.mk.injEq] at h
      obtain ⟨rfl, rfl⟩ := h
      have hc : 0 ≤ n ∧ n < xs.length := of_decide_eq_true (hp _ (List.mem_singleton.2 rfl))
      have hneg : ¬ n < 0 := by omega
      have hg := getElem?_getD τ.dflt (show n.toNat < xs.length by omega)
      simp only [aindexAddr, asI, Option.bind_eq_bind, Option.bind_some, if_neg hneg, hu, hs, List.getElem?_map, hg, Option.map_some, Ty.enc_length, if_true]
    · cases h
  · rename_i e b s off len cap hu
    split at h
    · rename_i hs
      simp only [Option.some.injEq, Prod.mk.injEq] at h
      obtain ⟨rfl, rfl⟩ := h
      have hc : 0 ≤ n ∧ n < len := of_decide_eq_true (hp _ (List.mem_singleton.2 rfl))
      have hneg : ¬ n < 0 := by omega
      simp [aindexAddr, asI, hneg, hu, hs, hc.2, addN_eq]
    · cases h
  · cases h

def qIdx (P : Program) (t : TypeId) (x i : AV) : QT :=
  match i with
  | .int _ n => match P.underlying t, x with
    | some .string, .str s => some (.int .u8 (s.getD n.toNat 0).toNat, [decide (0 ≤ n ∧ n < s.length)])
    | _, _ => none
  | _ => none
theorem qIdx_ok {P : Program} {t : TypeId} {x i r : AV} {ps : List Bool} (h : qIdx P t x i = some (r, ps)) (hp : ∀ p ∈ ps, p = true) : aindex P t x i = some r := by
  unfold qIdx at h
  split at h
  rotate_left
  · cases h
  rename_i k n
  split at h
  · rename_i s hu
    simp only [Option.some.injEq, Prod.mk.injEq] at h
    obtain ⟨rfl, rfl⟩ := h
    have hc : 0 ≤ n ∧ n < s.length := of_decide_eq_true (hp _ (List.mem_singleton.2 rfl))
    have hneg : ¬ n < 0 := by omega
    have hg := getElem?_getD 0 (show n.toNat < s.length by omega)
    simp only [aindex, asI, Option.bind_eq_bind, Option.bind_some, if_neg hneg, hu, hg]
  · cases h

def qLoad (P : Program) (t : TypeId) (a : AV) (H : Heap) : QT :=
  match a with
  | .ptr b i o => match H.get b with
    | some (.lst τ xs) => match rd P t (τ.enc (xs.getD i τ.dflt)) o with
      | some r => some (r, [decide (i < xs.length)])
      | none => none
    | _ => none
  | _ => none
theorem qLoad_ok {P : Program} {t : TypeId} {a r : AV} {H : Heap} {ps : List Bool} (h : qLoad P t a H = some (r, ps)) (hp : ∀ p ∈ ps, p = true) : ald P t a H = some r := by
  unfold qLoad at h
  split at h
  · rename_i b i o
    split at h
    · rename_i τ xs hb
      split at h
      · rename_i r' hr
        simp only [Option.some.injEq, Prod.mk.injEq] at h
        obtain ⟨rfl, rfl⟩ := h
        have hc : i < xs.length := of_decide_eq_true (hp _ (List.mem_singleton.2 rfl))
        have hg := getElem?_getD τ.dflt hc
        simp only [ald, hb, asRow, Option.bind_eq_bind, Option.bind_some, List.getElem?_map, hg, Option.map_some, hr]
      · cases h
    · cases h
  · cases h

def qT (P : Program) (op : Op) (F : Fr) (H : Heap) : QT :=
  match op with
  | .binOp o t x y _ => qBin P o t x y (ev F x) (ev F y)
  | .unOp o _ x => qUn o (ev F x)
  | .convert s d x => qConv P s d (ev F x) H
  | .slice t x lo hi mx => qSlice P t (ev F x) (lo.map (ev F)) (hi.map (ev F)) (mx.map (ev F))
  | .indexAddr t x i => qIdxA P t (ev F x) (ev F i)
  | .index t x i => qIdx P t (ev F x) (ev F i)
  | .load t a => qLoad P t (ev F a) H
  | _ => none
theorem qT_ok {P : Program} {op : Op} {F : Fr} {H : Heap} {r : AV} {ps : List Bool} (h : qT P op F H = some (r, ps)) (hp : ∀ p ∈ ps, p = true) : aq P op F H = some r := by
  unfold qT at h
  split at h
  · exact qBin_ok h hp
  · exact qUn_ok h hp
  · exact qConv_ok h hp
  · exact qSlice_ok h hp
  · exact qIdxA_ok h hp
  · exact qIdx_ok h hp
  · exact qLoad_ok h hp
  · cases h

def pickK (t : Bool) (x y : AV) (K : AV → Prop) : Prop :=
  match x, y with
  | .bool p, .bool q => K (.bool (bsel t p q))
  | _, _ => fork t (K x) (K y)
theorem pickK_ok {t : Bool} {x y : AV} {K : AV → Prop} (h : pickK t x y K) : K (if t then x else y) := by
  unfold pickK at h
  split at h
  · cases t <;> exact h
  · cases t <;> exact h
def isPick : Op → Bool
  | .pick .. => true
  | _ => false
/-- What a quiet operation asks, and what follows it. -/
def xq (P : Program) (op : Op) (F : Fr) (H : Heap) (K : AV → Prop) : Prop :=
  match op with
  | .pick c a b => match ev F c with
    | .bool t => pickK t (ev F a) (ev F b) K
    | _ => False
  | op => match qT P op F H with
    | some (r, ps) => allP ps (K r)
    | none => optK (aq P op F H) K
theorem xq_ok {P : Program} {op : Op} {F : Fr} {H : Heap} {K : AV → Prop} (h : xq P op F H K) : ∃ r, aq P op F H = some r ∧ K r := by
  unfold xq at h
  split at h
  · rename_i c a b
    split at h
    · rename_i t ht
      exact ⟨_, by simp [aq, ht, asB], pickK_ok h⟩
    · exact h.elim
  · split at h
    · rename_i r ps hq
      rw [allP_iff] at h
      exact ⟨r, qT_ok hq h.1, h.2⟩
    · exact optK_iff.1 h
end Go.Lom
