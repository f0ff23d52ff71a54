import Derived.Orders
import Derived.Defers
import Derived.Below
import Derived.Laws.Cells
import Derived.ChangeKeysEq
import Derived.Laws.StructEq
import Derived.Laws.BytesString
import Derived.ArgAppend
set_option linter.all false
/- Abstract values, the abstract heap, and their relation to the model's values and worlds. Plain definitions and lemmas; no condition. -/
namespace Go.Lom
open Go.RowKit
inductive Ty where
 | i (k : IntKind)
 | b
 | s
 | sl (t : Ty)
 | pr (x y : Ty)
 | ar (n : Nat) (t : Ty)
 | mp (κ ν : Ty)
 | so (t : Ty)
 deriving DecidableEq, Inhabited
abbrev Ty.den : Ty -> Type
 | .i _ => Int
 | .b => Bool
 | .s => List UInt8
 | .sl t => List t.den
 | .pr x y => x.den × y.den
 | .ar _ t => List t.den
 | .mp κ ν => List (κ.den × ν.den)
 | .so t => List t.den
inductive AV where
 | undef
 | bool (b : Bool)
 | int (k : IntKind) (n : Int)
 | str (s : List UInt8)
 | nilp
 | ptr (b i o : Nat)
 | rp (e : List AV) (o : Nat)
 | nils
 | emp
 | sl (b s off len : Nat) (cap : Option Nat)
 | rs (xs : List (List AV))
 | rl (t : Ty) (xs : List t.den)
 | nilm
 | mp (b : Nat)
 | rm (es : List (AV × AV))
 | rt (κ ν : Ty) (l : List (κ.den × ν.den))
 | it (b : Nat)
 | ro (t : Ty) (xs : List t.den)
 | nilf
 | fn (f : Fn) (first cap : List AV)
 | yf (b : Nat)
 | nili
 | iface (t : TypeId) (v : AV)
 | agg (cs : List AV)
 | ar (t : Ty) (xs : List t.den)
 | tup (vs : List AV)
 deriving Inhabited
def oneC : AV -> Bool
 | .undef | .agg _ | .ar _ _ | .tup _ => false
 | _ => true
def Ty.sz : Ty -> Nat
 | .i _ | .b | .s | .sl _ | .mp _ _ | .so _ => 1
 | .pr x y => x.sz + y.sz
 | .ar n t => n * t.sz
def Ty.dflt : (t : Ty) -> t.den
 | .i _ => (0 : Int)
 | .b => false
 | .s => []
 | .sl _ => []
 | .mp _ _ => []
 | .so _ => []
 | .pr x y => (x.dflt, y.dflt)
 | .ar n t => List.replicate n t.dflt
def padL {α : Type} : Nat -> α -> List α -> List α
 | 0, _, _ => []
 | n + 1, d, [] => d :: padL n d []
 | n + 1, d, x :: xs => x :: padL n d xs
def Ty.enc : (t : Ty) -> t.den -> List AV
 | .i k, n => [.int k n]
 | .b, x => [.bool x]
 | .s, x => [.str x]
 | .sl t, xs => [.rl t xs]
 | .mp κ ν, l => [.rt κ ν l]
 | .so t, xs => [.ro t xs]
 | .pr x y, p => x.enc p.1 ++ y.enc p.2
 | .ar n t, xs => (padL n t.dflt xs).flatMap t.enc
def Ty.val : (t : Ty) -> t.den -> AV
 | .i k, n => .int k n
 | .b, x => .bool x
 | .s, x => .str x
 | .sl t, xs => .rl t xs
 | .mp κ ν, l => .rt κ ν l
 | .so t, xs => .ro t xs
 | .pr x y, p => .agg (Ty.enc (.pr x y) p)
 | .ar _ t, xs => .ar t xs
theorem padL_length {α : Type} : ∀ (n : Nat) (d : α) (xs : List α), (padL n d xs).length = n
 | 0, _, _ => rfl
 | n + 1, d, [] => by simp [padL, padL_length n]
 | n + 1, d, x :: xs => by simp [padL, padL_length n]
theorem padL_self {α : Type} : ∀ {n : Nat} {d : α} {xs : List α}, xs.length = n -> padL n d xs = xs
 | 0, d, [], _ => rfl
 | n + 1, d, [], h => by simp at h
 | n + 1, d, x :: xs, h => by simp only [padL]; rw [padL_self (by simpa using h)]
 | 0, d, x :: xs, h => by simp at h
theorem flatMap_len {α : Type} {f : α -> List AV} {s : Nat} (hf : ∀ x, (f x).length = s) : ∀ xs : List α, (xs.flatMap f).length = xs.length * s
 | [] => by simp
 | x :: xs => by rw [List.flatMap_cons, List.length_append, hf, flatMap_len hf xs, List.length_cons, Nat.add_mul, Nat.one_mul, Nat.add_comm]
theorem flatMap_all {α : Type} {f : α -> List AV} {p : AV -> Bool} (hf : ∀ x, (f x).all p = true) : ∀ xs : List α, (xs.flatMap f).all p = true
 | [] => rfl
 | x :: xs => by rw [List.flatMap_cons, List.all_append, hf, flatMap_all hf xs]; rfl
theorem Ty.enc_length : ∀ (t : Ty) (x : t.den), (t.enc x).length = t.sz
 | .i _, _ | .b, _ | .s, _ | .sl _, _ | .mp _ _, _ | .so _, _ => rfl
 | .pr c d, p => by simp [Ty.enc, Ty.sz, Ty.enc_length c, Ty.enc_length d]
 | .ar n t, xs => by simp only [Ty.enc, Ty.sz]; rw [flatMap_len (Ty.enc_length t), padL_length]
theorem Ty.enc_oneC : ∀ (t : Ty) (x : t.den), (t.enc x).all oneC = true
 | .i _, _ | .b, _ | .s, _ | .sl _, _ | .mp _ _, _ | .so _, _ => rfl
 | .pr c d, p => by simp only [Ty.enc, List.all_append, Ty.enc_oneC c, Ty.enc_oneC d, Bool.and_self]
 | .ar n t, xs => by simp only [Ty.enc]; exact flatMap_all (Ty.enc_oneC t) _
abbrev ZMap := Nat -> Option Obj
structure Loc where
 B : Nat
 ob : Nat
 s : Nat
 lim : Nat
abbrev PMap := Nat -> Option Loc
def zcell (Z : ZMap) (B x : Nat) : Option Value :=
 match Z B with
 | some (.cells c _ _) => c[x]?
 | _ => none
def capOk : Option Nat -> Nat -> Nat -> Prop
 | some k, _, c => c = k
 | none, len, c => len <= c
def bornOk (ms : Array MapEntry) (clk : Nat) : Prop :=
 (∀ (i : Nat) (m : MapEntry), ms[i]? = some m -> m.born < clk) /\ ∀ (i j : Nat) (m m' : MapEntry), i ≠ j -> ms[i]? = some m -> ms[j]? = some m' -> m.born ≠ m'.born
theorem bornOk.push {ms : Array MapEntry} {clk : Nat} (h : bornOk ms clk) {e : MapEntry} (he : e.born = clk) : bornOk (ms.push e) (clk + 1) := by
 have lt : ∀ (i : Nat) (m : MapEntry), (ms.push e)[i]? = some m -> (i = ms.size /\ m = e) \/ (i ≠ ms.size /\ ms[i]? = some m) := fun i m hi => by
  rw [Array.getElem?_push] at hi
  by_cases h1 : i = ms.size
  ·rw [if_pos h1] at hi; injection hi with hi; exact .inl ⟨h1, hi.symm⟩
  ·rw [if_neg h1] at hi; exact .inr ⟨h1, hi⟩
 refine ⟨fun i m hi => ?_, fun i j m m' hij hi hj => ?_⟩
 ·rcases lt i m hi with ⟨_, rfl⟩ | ⟨_, hi⟩
  ·omega
  ·have := h.1 i m hi; omega
 ·rcases lt i m hi with ⟨e1, e1'⟩ | ⟨_, hi'⟩ <;> rcases lt j m' hj with ⟨e2, e2'⟩ | ⟨_, hj'⟩
  ·omega
  ·have := h.1 j m' hj'; rw [e1']; omega
  ·have := h.1 i m hi'; rw [e2']; omega
  ·exact h.2 i j m m' hij hi' hj'
theorem bornOk.modify {ms : Array MapEntry} {clk : Nat} (h : bornOk ms clk) {i : Nat} {f : MapEntry -> MapEntry} (hf : ∀ m, (f m).born = m.born) : bornOk (ms.modify i f) clk := by
 have old : ∀ (j : Nat) (m : MapEntry), (ms.modify i f)[j]? = some m -> ∃ m', ms[j]? = some m' /\ m.born = m'.born := fun j m hj => by
  rw [Array.getElem?_modify] at hj
  split at hj
  ·cases hm : ms[j]? with
   | none => rw [hm] at hj; cases hj
   | some m' => rw [hm] at hj; injection hj with hj; subst hj; exact ⟨m', rfl, hf m'⟩
  ·exact ⟨m, hj, rfl⟩
 refine ⟨fun j m hj => ?_, fun j k m m' hjk hj hk => ?_⟩
 ·obtain ⟨m', h1, h2⟩ := old j m hj; rw [h2]; exact h.1 j m' h1
 ·obtain ⟨m1, h1, h2⟩ := old j m hj
  obtain ⟨m2, h3, h4⟩ := old k m' hk
  rw [h2, h4]; exact h.2 j k m1 m2 hjk h1 h3
theorem bornOk.nil : bornOk #[] 0 := ⟨fun i m h => by simp at h, fun i j m m' _ h => by simp at h⟩
inductive Rep (Z : ZMap) (φ : PMap) : AV -> Value -> Prop
 | undef (v : Value) : Rep Z φ .undef v
 | bool (b : Bool) : Rep Z φ (.bool b) (.bool b)
 | int (k : IntKind) (n : Int) : Rep Z φ (.int k n) (.int k n)
 | str (s : List UInt8) : Rep Z φ (.str s) (.string ⟨s.toArray⟩)
 | nilp : Rep Z φ .nilp (.pointer none)
 | ptr {b i o : Nat} {l : Loc} (h : φ b = some l) : Rep Z φ (.ptr b i o) (.pointer (some ⟨l.B, l.ob + i * l.s + o, none⟩))
 | rp {e : List AV} {o B off : Nat} (us : Nat -> Value) (h1 : ∀ (j : Nat) (v : AV), e[j]? = some v -> zcell Z B (off + j) = some (us j))
   (h2 : ∀ (j : Nat) (v : AV), e[j]? = some v -> Rep Z φ v (us j)) : Rep Z φ (.rp e o) (.pointer (some ⟨B, off + o, none⟩))
 | nils : Rep Z φ .nils (.slice none 0 0)
 | emp (a : Addr) : Rep Z φ .emp (.slice (some a) 0 0)
 | sl {b s off len c : Nat} {l : Loc} {cap : Option Nat} {a : Addr} (h : φ b = some l) (hs : l.s = s) (hc : capOk cap len c) (hl : len <= c) (hm : off + c <= l.lim)
   (ha : a = ⟨l.B, l.ob + off * s, none⟩ \/ c = 0) : Rep Z φ (.sl b s off len cap) (.slice (some a) len c)
 | rs {xs : List (List AV)} {B off c s n : Nat} {a : Addr} (us : Nat -> Nat -> Value) (hn : xs.length = n) (hc : n <= c) (ha : a = ⟨B, off, none⟩ \/ n = 0)
   (h0 : ∀ (i : Nat) (e : List AV), xs[i]? = some e -> e.length = s /\ e.all oneC = true)
   (h1 : ∀ (i : Nat) (e : List AV) (j : Nat) (v : AV), xs[i]? = some e -> e[j]? = some v -> zcell Z B (off + i * s + j) = some (us i j))
   (h2 : ∀ (i : Nat) (e : List AV) (j : Nat) (v : AV), xs[i]? = some e -> e[j]? = some v -> Rep Z φ v (us i j)) : Rep Z φ (.rs xs) (.slice (some a) n c)
 | sl0n {b s off : Nat} {cap : Option Nat} (hc : capOk cap 0 0) : Rep Z φ (.sl b s off 0 cap) (.slice none 0 0)
 | sl0s {b s off : Nat} {cap : Option Nat} (hc : capOk cap 0 0) (a : Addr) : Rep Z φ (.sl b s off 0 cap) (.slice (some a) 0 0)
 | rl {t : Ty} {xs : List t.den} {ao : Option Addr} {n c : Nat} (h : Rep Z φ (.rs (xs.map t.enc)) (.slice ao n c)) : Rep Z φ (.rl t xs) (.slice ao n c)
 | rs0 : Rep Z φ (.rs []) (.slice none 0 0)
 | nilm : Rep Z φ .nilm (.map none)
 | mp {b : Nat} {l : Loc} (h : φ b = some l) : Rep Z φ (.mp b) (.map (some l.B))
 | rm {es es' : List (AV × AV)} {B : Nat} {ms : Array MapEntry} {clk : Nat} (hZ : Z B = some (.map ms clk)) (hn : ms.size = es'.length)
   (hi : ∀ p, p ∈ es' -> p ∈ es) (ho : ∀ p, p ∈ es -> p ∈ es')
   (h1 : ∀ (i : Nat) (k v : AV) (m : MapEntry), es'[i]? = some (k, v) -> ms[i]? = some m -> Rep Z φ k m.key)
   (h2 : ∀ (i : Nat) (k v : AV) (m : MapEntry), es'[i]? = some (k, v) -> ms[i]? = some m -> Rep Z φ v m.val) : Rep Z φ (.rm es) (.map (some B))
 | rt {κ ν : Ty} {l : List (κ.den × ν.den)} {B : Nat} {ms : Array MapEntry} {clk : Nat} (hZ : Z B = some (.map ms clk)) (hn : ms.size = l.length) (hb : bornOk ms clk)
   (h1 : ∀ (i : Nat) (p : κ.den × ν.den) (m : MapEntry), l[i]? = some p -> ms[i]? = some m -> Rep Z φ (κ.val p.1) m.key)
   (h2 : ∀ (i : Nat) (p : κ.den × ν.den) (m : MapEntry), l[i]? = some p -> ms[i]? = some m -> Rep Z φ (ν.val p.2) m.val) : Rep Z φ (.rt κ ν l) (.map (some B))
 | ro0 {t : Ty} : Rep Z φ (.ro t []) (.slice none 0 0)
 | ro {t : Ty} {x : t.den} {xs : List t.den} {ao : Option Addr} {n c : Nat} (h : Rep Z φ (.rl t (x :: xs)) (.slice ao n c)) : Rep Z φ (.ro t (x :: xs)) (.slice ao n c)
 | it {b : Nat} {l : Loc} (h : φ b = some l) : Rep Z φ (.it b) (.pointer (some ⟨l.B, 0, none⟩))
 | nilf : Rep Z φ .nilf .nilFunc
 | fn {f : Fn} {xs ys : List AV} {us ws : Array Value} (hx : us.size = xs.length) (hy : ws.size = ys.length)
   (h1 : ∀ (i : Nat) (v : AV) (u : Value), xs[i]? = some v -> us[i]? = some u -> Rep Z φ v u)
   (h2 : ∀ (i : Nat) (v : AV) (u : Value), ys[i]? = some v -> ws[i]? = some u -> Rep Z φ v u) : Rep Z φ (.fn f xs ys) (.func f us ws)
 | yf {b : Nat} {l : Loc} (h : φ b = some l) : Rep Z φ (.yf b) (.func (.yield l.B) #[] #[])
 | nili : Rep Z φ .nili .nilIface
 | iface {t : TypeId} {v : AV} {u : Value} (h : Rep Z φ v u) : Rep Z φ (.iface t v) (.iface t u)
 | agg {cs : List AV} {us : Array Value} (hl : us.size = cs.length)
   (h : ∀ (i : Nat) (v : AV) (u : Value), cs[i]? = some v -> us[i]? = some u -> Rep Z φ v u) : Rep Z φ (.agg cs) (.agg us)
 | ar {t : Ty} {xs : List t.den} {us : Array Value} (h : Rep Z φ (.agg (xs.flatMap t.enc)) (.agg us)) : Rep Z φ (.ar t xs) (.agg us)
 | tup {cs : List AV} {us : Array Value} (hl : us.size = cs.length)
   (h : ∀ (i : Nat) (v : AV) (u : Value), cs[i]? = some v -> us[i]? = some u -> Rep Z φ v u) : Rep Z φ (.tup cs) (.tuple us)
theorem Rep.rs_slice {Z : ZMap} {φ : PMap} {x : AV} {v : Value} (h : Rep Z φ x v) : ∀ {xs : List (List AV)}, x = .rs xs -> ∃ ao n c, v = .slice ao n c := by
 intro xs hx
 cases h with
 | rs us hn hc ha h0 h1 h2 => exact ⟨_, _, _, rfl⟩
 | rs0 => exact ⟨_, _, _, rfl⟩
 | _ => cases hx
theorem Rep.toRl {Z : ZMap} {φ : PMap} {t : Ty} {xs : List t.den} {v : Value} (h : Rep Z φ (.rs (xs.map t.enc)) v) : Rep Z φ (.rl t xs) v := by
 obtain ⟨ao, n, c, rfl⟩ := h.rs_slice rfl
 exact .rl h
theorem Rep.ofRl {Z : ZMap} {φ : PMap} {t : Ty} {xs : List t.den} {v : Value} (h : Rep Z φ (.rl t xs) v) : Rep Z φ (.rs (xs.map t.enc)) v := by
 cases h with | rl h => exact h
theorem Rep.toAr {Z : ZMap} {φ : PMap} {t : Ty} {xs : List t.den} {v : Value} (h : Rep Z φ (.agg (xs.flatMap t.enc)) v) : Rep Z φ (.ar t xs) v := by
 generalize hc : AV.agg (xs.flatMap t.enc) = a at h
 cases h <;> cases hc
 exact .ar (.agg (by assumption) (by assumption))
theorem Rep.ofAr {Z : ZMap} {φ : PMap} {t : Ty} {xs : List t.den} {v : Value} (h : Rep Z φ (.ar t xs) v) : Rep Z φ (.agg (xs.flatMap t.enc)) v := by
 cases h with | ar h => exact h
def ZLe (Z Z' : ZMap) : Prop := ∀ B o, Z B = some o -> Z' B = some o
def PLe (φ φ' : PMap) : Prop := ∀ b x, φ b = some x -> φ' b = some x
theorem ZLe.refl (Z : ZMap) : ZLe Z Z := fun _ _ h => h
theorem PLe.refl (φ : PMap) : PLe φ φ := fun _ _ h => h
theorem ZLe.trans {a b c : ZMap} (h : ZLe a b) (k : ZLe b c) : ZLe a c := fun B o x => k B o (h B o x)
theorem PLe.trans {a b c : PMap} (h : PLe a b) (k : PLe b c) : PLe a c := fun B o x => k B o (h B o x)
def isDef : Obj -> Bool
 | .deferred _ => true
 | _ => false
def ZLeD (Z Z' : ZMap) : Prop := ∀ B o, Z B = some o -> isDef o = false -> Z' B = some o
theorem ZLe.toD {Z Z' : ZMap} (h : ZLe Z Z') : ZLeD Z Z' := fun B o hz _ => h B o hz
def zdel (Z : ZMap) (B : Nat) : ZMap := fun C => if C = B then none else Z C
theorem zdel_ne {Z : ZMap} {B C : Nat} (h : C ≠ B) : zdel Z B C = Z C := by simp [zdel, h]
theorem zdel_self {Z : ZMap} {B : Nat} : zdel Z B B = none := by simp [zdel]
theorem zdel_leD {Z : ZMap} {B : Nat} {o : Obj} (h : Z B = some o) (ho : isDef o = true) : ZLeD Z (zdel Z B) := fun C q hz hq => by
 rw [zdel_ne]; exact hz
 rintro rfl
 rw [h] at hz; injection hz with hz; rw [<- hz, ho] at hq; cases hq
theorem zcell_monoD {Z Z' : ZMap} (h : ZLeD Z Z') {B x : Nat} {u : Value} (hc : zcell Z B x = some u) : zcell Z' B x = some u := by
 unfold zcell at *
 cases hz : Z B with
 | none => rw [hz] at hc; cases hc
 | some o =>
  rw [hz] at hc
  cases o with
  | deferred ds => cases hc
  | _ => rw [h B _ hz rfl]; exact hc
theorem zcell_mono {Z Z' : ZMap} (h : ZLe Z Z') {B x : Nat} {u : Value} (hc : zcell Z B x = some u) : zcell Z' B x = some u := zcell_monoD h.toD hc
theorem Rep.monoD {Z Z' : ZMap} {φ φ' : PMap} (hZ : ZLeD Z Z') (hφ : PLe φ φ') {v : AV} {u : Value} (h : Rep Z φ v u) : Rep Z' φ' v u := by
 induction h with
 | undef v => exact .undef v
 | bool b => exact .bool b
 | int k n => exact .int k n
 | str s => exact .str s
 | nilp => exact .nilp
 | ptr h => exact .ptr (hφ _ _ h)
 | rp us h1 h2 ih => exact .rp us (fun j v hj => zcell_monoD hZ (h1 j v hj)) ih
 | nils => exact .nils
 | emp a => exact .emp a
 | sl h hs hc hl hm ha => exact .sl (hφ _ _ h) hs hc hl hm ha
 | rs us hn hc ha h0 h1 h2 ih => exact .rs us hn hc ha h0 (fun i e j v hi hj => zcell_monoD hZ (h1 i e j v hi hj)) ih
 | sl0n hc => exact .sl0n hc
 | sl0s hc a => exact .sl0s hc a
 | rl h ih => exact .rl ih
 | rs0 => exact .rs0
 | nilm => exact .nilm
 | mp h => exact .mp (hφ _ _ h)
 | rm h hn hi ho h1 h2 i1 i2 => exact .rm (hZ _ _ h rfl) hn hi ho i1 i2
 | rt h hn hb h1 h2 i1 i2 => exact .rt (hZ _ _ h rfl) hn hb i1 i2
 | ro0 => exact .ro0
 | ro h ih => exact .ro ih
 | it h => exact .it (hφ _ _ h)
 | nilf => exact .nilf
 | fn hx hy h1 h2 i1 i2 => exact .fn hx hy i1 i2
 | yf h => exact .yf (hφ _ _ h)
 | nili => exact .nili
 | iface h ih => exact .iface ih
 | agg hl h ih => exact .agg hl ih
 | ar h ih => exact .ar ih
 | tup hl h ih => exact .tup hl ih
theorem Rep.mono {Z Z' : ZMap} {φ φ' : PMap} (hZ : ZLe Z Z') (hφ : PLe φ φ') {v : AV} {u : Value} (h : Rep Z φ v u) : Rep Z' φ' v u := h.monoD hZ.toD hφ
def Reps (Z : ZMap) (φ : PMap) (xs : List AV) (us : Array Value) : Prop :=
 us.size = xs.length /\ ∀ (i : Nat) (v : AV) (u : Value), xs[i]? = some v -> us[i]? = some u -> Rep Z φ v u
theorem Reps.monoD {Z Z' : ZMap} {φ φ' : PMap} (hZ : ZLeD Z Z') (hφ : PLe φ φ') {xs : List AV} {us : Array Value} (h : Reps Z φ xs us) : Reps Z' φ' xs us :=
 ⟨h.1, fun i v u a b => (h.2 i v u a b).monoD hZ hφ⟩
theorem Reps.mono {Z Z' : ZMap} {φ φ' : PMap} (hZ : ZLe Z Z') (hφ : PLe φ φ') {xs : List AV} {us : Array Value} (h : Reps Z φ xs us) : Reps Z' φ' xs us :=
 ⟨h.1, fun i v u a b => (h.2 i v u a b).mono hZ hφ⟩
abbrev Fr := List (Nat × AV)
def Fr.get : Fr -> Nat -> AV
 | [], _ => .undef
 | (c, v) :: F, t => if t = c then v else Fr.get F t
def Fr.put (F : Fr) : Option Tmp -> AV -> Fr
 | some d, v => (d, v) :: F
 | none, _ => F
def FrRel (Z : ZMap) (φ : PMap) (F : Fr) (tmps : Array Value) : Prop := ∀ t, Rep Z φ (F.get t) (tmps.getD t Go.undef)
theorem FrRel.mono {Z Z' : ZMap} {φ φ' : PMap} (hZ : ZLe Z Z') (hφ : PLe φ φ') {F : Fr} {tmps : Array Value} (h : FrRel Z φ F tmps) : FrRel Z' φ' F tmps :=
 fun t => (h t).mono hZ hφ
theorem FrRel.monoD {Z Z' : ZMap} {φ φ' : PMap} (hZ : ZLeD Z Z') (hφ : PLe φ φ') {F : Fr} {tmps : Array Value} (h : FrRel Z φ F tmps) : FrRel Z' φ' F tmps :=
 fun t => (h t).monoD hZ hφ
inductive Blk where
 | row (s : Nat) (es : List (List AV))
 | lst (t : Ty) (xs : List t.den)
 | mp (es : List (AV × AV))
 | tm (κ ν : Ty) (l : List (κ.den × ν.den))
 | tx (κ t : Ty) (l : List (κ.den × List t.den)) (k : κ.den) (v : AV) (st : Option Int)
 | it (κ ν : Ty) (cur : Option (κ.den × ν.den)) (l : List (κ.den × ν.den))
 | lp (st : LoopState) (pend : Option Code) (F : Fr) (N : Nat) (ps : List Nat) (asg body : Code)
 | dfs
 deriving Inhabited
def Blk.ghost : Blk -> Bool
 | .lst _ [] => true
 | _ => false
abbrev Heap := List (Nat × Blk)
def Heap.get : Heap -> Nat -> Option Blk
 | [], _ => none
 | (c, x) :: H, b => if b = c then some x else Heap.get H b
def Heap.del : Heap -> Nat -> Heap
 | [], _ => []
 | (c, x) :: H, b => if b = c then Heap.del H b else (c, x) :: Heap.del H b
def Heap.upd : Heap -> Nat -> Blk -> Heap
 | [], b, x => [(b, x)]
 | (c, y) :: H, b, x => if b = c then (c, x) :: H else (c, y) :: Heap.upd H b x
def Heap.set (H : Heap) (b : Nat) (x : Blk) : Heap := match H with
 | [] => [(b, x)]
 | (c, y) :: H => if c < b then (b, x) :: (c, y) :: H else Heap.upd ((c, y) :: H) b x
theorem Heap.get_del (H : Heap) (b c : Nat) : (H.del b).get c = if c = b then none else H.get c := by
 induction H with
 | nil => simp [Heap.del, Heap.get]
 | cons p H ih =>
  obtain ⟨d, x⟩ := p
  simp only [Heap.del]
  by_cases h : b = d
  ·subst h; rw [if_pos rfl, ih]; simp only [Heap.get]; by_cases h2 : c = b <;> simp [h2]
  ·rw [if_neg h]; simp only [Heap.get, ih]; by_cases h2 : c = d
   ·subst h2; simp [Ne.symm h]
   ·simp [h2]
theorem Heap.get_upd : ∀ (H : Heap) (b c : Nat) (x : Blk), (H.upd b x).get c = if c = b then some x else H.get c
 | [], b, c, x => rfl
 | (d, y) :: H, b, c, x => by
  simp only [Heap.upd]
  by_cases h : b = d
  ·subst h; rw [if_pos rfl]; simp only [Heap.get]; by_cases h2 : c = b <;> simp [h2]
  ·rw [if_neg h]; simp only [Heap.get, Heap.get_upd H b c x]
   by_cases h2 : c = d
   ·subst h2; rw [if_pos rfl, if_pos rfl, if_neg (Ne.symm h)]
   ·rw [if_neg h2, if_neg h2]
theorem Heap.get_set (H : Heap) (b c : Nat) (x : Blk) : (H.set b x).get c = if c = b then some x else H.get c := by
 unfold Heap.set
 split
 ·rfl
 ·split
  ·rfl
  ·exact Heap.get_upd _ _ _ _
theorem Heap.get_set_self (H : Heap) (b : Nat) (x : Blk) : (H.set b x).get b = some x := by simp [Heap.get_set]
def Sub (H H' : Heap) : Prop := ∀ b x, H.get b = some x -> H'.get b = some x
theorem Sub.refl (H : Heap) : Sub H H := fun _ _ h => h
theorem Sub.trans {a b c : Heap} (h : Sub a b) (k : Sub b c) : Sub a c := fun x y z => k x y (h x y z)
def rowRel (Z : ZMap) (φ : PMap) (w : World) (l : Loc) (s : Nat) (es : List (List AV)) : Prop :=
 s = l.s /\ es.length <= l.lim /\ ∃ c T fz, w.heap[l.B]? = some (.cells c T fz) /\ l.ob + l.lim * l.s <= c.size /\ (∀ x, x < c.size -> ¬ (fz.1 <= x /\ x < fz.2)) /\
   ∀ (i : Nat) (e : List AV), es[i]? = some e -> e.length = l.s /\ e.all oneC = true /\ ∀ (j : Nat) (v : AV), e[j]? = some v -> ∃ u, c[l.ob + i * l.s + j]? = some u /\ Rep Z φ v u
def encM (κ ν : Ty) (l : List (κ.den × ν.den)) : List (AV × AV) := l.map fun p => (κ.val p.1, ν.val p.2)
def mpRel (Z : ZMap) (φ : PMap) (w : World) (l : Loc) (es : List (AV × AV)) : Prop :=
 ∃ ms clk, w.heap[l.B]? = some (.map ms clk) /\ bornOk ms clk /\ ms.size = es.length /\
   ∀ (i : Nat) (k v : AV) (m : MapEntry), es[i]? = some (k, v) -> ms[i]? = some m -> Rep Z φ k m.key /\ Rep Z φ v m.val
def leftM (seen : Array Nat) (ms : Array MapEntry) : List MapEntry := (ms.filter fun e => !seen.contains e.born).toList
def stRel (w : World) (l : Loc) (n : Nat) (st : Option Int) : Prop := ∀ s, st = some s -> ∃ ms clk m, w.heap[l.B]? = some (.map ms clk) /\ ms[n]? = some m /\ (m.born : Int) = s
def itRel (Z : ZMap) (φ : PMap) (w : World) (l : Loc) (cur : Option (AV × AV)) (es : List (AV × AV)) : Prop :=
 ∃ B seen ms clk, w.heap[l.B]? = some (.mapIter (some B) clk seen clk) /\ Z B = some (.map ms clk) /\ bornOk ms clk /\ (leftM seen ms).length = es.length /\
   (∀ (k v : AV), cur = some (k, v) -> ∃ (i : Nat) (m : MapEntry), ms[i]? = some m /\ seen.back? = some m.born /\ Rep Z φ k m.key /\ Rep Z φ v m.val) /\
   ∀ (i : Nat) (k v : AV) (m : MapEntry), es[i]? = some (k, v) -> (leftM seen ms)[i]? = some m -> Rep Z φ k m.key /\ Rep Z φ v m.val
def blkRel (Z : ZMap) (φ : PMap) (w : World) (l : Loc) : Blk -> Prop
 | .row s es => rowRel Z φ w l s es
 | .lst t xs => rowRel Z φ w l t.sz (xs.map t.enc)
 | .mp es => mpRel Z φ w l es
 | .tm κ ν xs => mpRel Z φ w l (encM κ ν xs)
 | .tx κ t xs k v st => mpRel Z φ w l (encM κ (.sl t) xs ++ [(κ.val k, v)]) /\ stRel w l xs.length st
 | .it κ ν cur xs => itRel Z φ w l (cur.map fun p => (κ.val p.1, ν.val p.2)) (encM κ ν xs)
 | .lp st pend F N ps asg body => ∃ r, w.heap[l.B]? = some (.loop r) /\ r.state = st /\ r.pending = pend /\ r.tmps.size = N /\ r.params = ps.toArray /\ r.assign = asg /\ r.body = body /\ FrRel Z φ F r.tmps
 | .dfs => w.heap[l.B]? = some (.deferred (some []))
theorem blkRel.monoD {Z Z' : ZMap} {φ φ' : PMap} (hZ : ZLeD Z Z') (hφ : PLe φ φ') {w w' : World} {l : Loc} {x : Blk} (hw : w'.heap[l.B]? = w.heap[l.B]?)
  (h : blkRel Z φ w l x) : blkRel Z' φ' w' l x := by
 have row : ∀ (s : Nat) (es : List (List AV)), rowRel Z φ w l s es -> rowRel Z' φ' w' l s es := fun s es h => by
  obtain ⟨hs, hlim, c, T, fz, hb, hsz, hf, he⟩ := h
  exact ⟨hs, hlim, c, T, fz, by rw [hw, hb], hsz, hf, fun i e hi => ⟨(he i e hi).1, (he i e hi).2.1, fun j v hj => let ⟨u, hu, hr⟩ := (he i e hi).2.2 j v hj; ⟨u, hu, hr.monoD hZ hφ⟩⟩⟩
 have mp : ∀ es, mpRel Z φ w l es -> mpRel Z' φ' w' l es := fun es h => by
  obtain ⟨ms, clk, hb, hbo, hn, he⟩ := h
  exact ⟨ms, clk, by rw [hw, hb], hbo, hn, fun i k v m hi hm => let ⟨a, b⟩ := he i k v m hi hm; ⟨a.monoD hZ hφ, b.monoD hZ hφ⟩⟩
 cases x with
 | row s' es => exact row _ _ h
 | lst t xs => exact row _ _ h
 | mp es => exact mp _ h
 | tm κ ν xs => exact mp _ h
 | tx κ t l k v st => exact ⟨mp _ h.1, fun s hs => let ⟨ms, clk, m, h1, h2, h3⟩ := h.2 s hs; ⟨ms, clk, m, by rw [hw, h1], h2, h3⟩⟩
 | it κ ν cur l =>
  obtain ⟨B, seen, ms, clk, hb, hz, hbo, hn, hc, he⟩ := h
  exact ⟨B, seen, ms, clk, by rw [hw, hb], hZ _ _ hz rfl, hbo, hn, fun k v hk => let ⟨i, m, h1, h2, h3, h4⟩ := hc k v hk; ⟨i, m, h1, h2, h3.monoD hZ hφ, h4.monoD hZ hφ⟩, fun i k v m hi hm => let ⟨a, b⟩ := he i k v m hi hm; ⟨a.monoD hZ hφ, b.monoD hZ hφ⟩⟩
 | lp st pend F N ps asg body =>
  obtain ⟨r, hb, h1, h2, h3, h4, h5, h6, h7⟩ := h
  exact ⟨r, by rw [hw, hb], h1, h2, h3, h4, h5, h6, h7.monoD hZ hφ⟩
 | dfs => exact hw.trans h
theorem blkRel.mono {Z Z' : ZMap} {φ φ' : PMap} (hZ : ZLe Z Z') (hφ : PLe φ φ') {w w' : World} {l : Loc} {x : Blk} (hw : w'.heap[l.B]? = w.heap[l.B]?)
  (h : blkRel Z φ w l x) : blkRel Z' φ' w' l x := h.monoD hZ.toD hφ hw
structure Start where
 world : World
 z : ZMap
structure KeptW (U : Nat -> Prop) (w w' : World) : Prop where
 os : w'.os = w.os
 tape : w'.tape = w.tape
 output : w'.output = w.output
 size : w.heap.size <= w'.heap.size
 block : ∀ k, k < w.heap.size -> U k -> w'.heap[k]? = w.heap[k]?
theorem KeptW.refl (U : Nat -> Prop) (w : World) : KeptW U w w := ⟨rfl, rfl, rfl, Nat.le_refl _, fun _ _ _ => rfl⟩
theorem KeptW.trans {U : Nat -> Prop} {a b c : World} (h : KeptW U a b) (k : KeptW U b c) : KeptW U a c :=
 ⟨k.os.trans h.os, k.tape.trans h.tape, k.output.trans h.output, Nat.le_trans h.size k.size, fun i hi hu => (k.block i (Nat.lt_of_lt_of_le hi h.size) hu).trans (h.block i hi hu)⟩
theorem KeptW.alloc {U : Nat -> Prop} {a b : World} (h : KeptW U a b) (o : Obj) : KeptW U a (b.alloc o) :=
 ⟨h.os, h.tape, h.output, by have := h.size; show a.heap.size <= (b.heap.push o).size; simp; omega, fun k hk hu => by
  rw [Below.heap_alloc b o k (Nat.lt_of_lt_of_le hk h.size)]; exact h.block k hk hu⟩
theorem KeptW.below {B : Nat} {a b : World} (hB : B <= a.heap.size) (h : KeptW (· < B) a b) : Below B a b :=
 ⟨h.os, h.tape, h.output, h.size, fun k hk => h.block k (Nat.lt_of_lt_of_le hk hB) hk⟩
def globVal : Nat -> Option (List AV) := fun _ => none
def chainMax : Nat := 4
def rowMin : Nat := 0
def GlobOk (Z : ZMap) : Prop := ∀ g e, globVal g = some e -> ∃ us : Nat -> Value, ∀ (j : Nat) (v : AV), e[j]? = some v -> zcell Z g j = some (us j) /\ Rep Z (fun _ => none) v (us j)
theorem GlobOk.monoD {Z Z' : ZMap} (hZ : ZLeD Z Z') (h : GlobOk Z) : GlobOk Z' := fun g e he =>
 let ⟨us, hu⟩ := h g e he
 ⟨us, fun j v hj => ⟨zcell_monoD hZ (hu j v hj).1, (hu j v hj).2.monoD hZ (PLe.refl _)⟩⟩
theorem GlobOk.mono {Z Z' : ZMap} (hZ : ZLe Z Z') (h : GlobOk Z) : GlobOk Z' := h.monoD hZ.toD
structure HRel (base : Nat -> Prop) (w0 : Start) (Z : ZMap) (φ : PMap) (H : Heap) (nx : Nat) (w : World) : Prop where
 below : KeptW base w0.world w
 z : ∀ B o, Z B = some o -> w.heap[B]? = some o
 z0 : ∀ B, B < w0.world.heap.size -> base B -> Z B = w0.z B
 gl : GlobOk Z
 fnx : ∀ b x, φ b = some x -> b < nx
 hnx : ∀ b x, H.get b = some x -> b < nx
 flt : ∀ b l, φ b = some l -> l.B < w.heap.size
 own' : ∀ b x, H.get b = some x -> (x.ghost = true /\ φ b = none) \/ ∃ l, φ b = some l /\ Z l.B = none /\ blkRel Z φ w l x
 inj : ∀ b b' x x' l l', b ≠ b' -> H.get b = some x -> H.get b' = some x' -> φ b = some l -> φ b' = some l' -> l.B ≠ l'.B
 ob : ∀ b x l, H.get b = some x -> φ b = some l -> base l.B -> w0.world.heap.size <= l.B
section
variable {base : Nat -> Prop} {w0 : Start} {Z : ZMap} {φ : PMap} {H : Heap} {nx : Nat} {w : World}
theorem HRel.own (h : HRel base w0 Z φ H nx w) (b : Nat) (x : Blk) (hb : H.get b = some x) (hg : x.ghost = false := by rfl) : ∃ l, φ b = some l /\ Z l.B = none /\ blkRel Z φ w l x := by
 rcases h.own' b x hb with ⟨h1, _⟩ | h
 ·rw [h1] at hg; cases hg
 ·exact h
theorem HRel.ownAt (h : HRel base w0 Z φ H nx w) {b : Nat} {x : Blk} {l : Loc} (hb : H.get b = some x) (hf : φ b = some l) : Z l.B = none /\ blkRel Z φ w l x := by
 rcases h.own' b x hb with ⟨_, h1⟩ | ⟨l', h1, h2⟩
 ·rw [hf] at h1; cases h1
 ·rw [hf] at h1; injection h1 with h1; subst h1; exact h2
theorem HRel.sub (h : HRel base w0 Z φ H nx w) {H' : Heap} (hs : Sub H' H) : HRel base w0 Z φ H' nx w :=
 ⟨h.below, h.z, h.z0, h.gl, h.fnx, fun b x hx => h.hnx b x (hs _ _ hx), h.flt, fun b x hx => h.own' b x (hs b x hx), fun b b' x x' l l' hne hx hx' => h.inj b b' x x' l l' hne (hs _ _ hx) (hs _ _ hx'), fun b x l hx hf => h.ob b x l (hs _ _ hx) hf⟩
theorem HRel.nxMono (h : HRel base w0 Z φ H nx w) {nx' : Nat} (hn : nx <= nx') : HRel base w0 Z φ H nx' w :=
 ⟨h.below, h.z, h.z0, h.gl, fun b x hx => Nat.lt_of_lt_of_le (h.fnx b x hx) hn, fun b x hx => Nat.lt_of_lt_of_le (h.hnx b x hx) hn, h.flt, h.own', h.inj, h.ob⟩
theorem HRel.drew (h : HRel base w0 Z φ H nx w) {n : Nat} : HRel base w0 Z φ H nx { w with drawn := n } :=
 ⟨⟨h.below.os, h.below.tape, h.below.output, h.below.size, h.below.block⟩, h.z, h.z0, h.gl, h.fnx, h.hnx, h.flt, h.own', h.inj, h.ob⟩
def PMap.set (φ : PMap) (b : Nat) (x : Loc) : PMap := fun c => if c = b then some x else φ c
theorem PMap.set_self (φ : PMap) (b : Nat) (x : Loc) : φ.set b x b = some x := by simp [PMap.set]
theorem PMap.le_set {φ : PMap} {b : Nat} {x : Loc} (h : φ b = none) : PLe φ (φ.set b x) := by
 intro c y hy; unfold PMap.set; by_cases hc : c = b
 ·subst hc; rw [h] at hy; cases hy
 ·simp [hc, hy]
theorem HRel.fresh (h : HRel base w0 Z φ H nx w) {b : Nat} (hb : nx <= b) : φ b = none := by
 cases hx : φ b with
 | none => rfl
 | some x => have := h.fnx b x hx; omega
theorem HRel.freshH (h : HRel base w0 Z φ H nx w) {b : Nat} (hb : nx <= b) : H.get b = none := by
 cases hx : H.get b with
 | none => rfl
 | some x => have := h.hnx b x hx; omega
theorem HRel.notZ (h : HRel base w0 Z φ H nx w) {B : Nat} (hB : w.heap.size <= B) : Z B = none := by
 cases hx : Z B with
 | none => rfl
 | some x => have := h.z B x hx; rw [Array.getElem?_eq_none hB] at this; cases this
theorem heap_push (w : World) (o : Obj) (k : Nat) (h : k < w.heap.size) : (w.alloc o).heap[k]? = w.heap[k]? := Below.heap_alloc w o k h
theorem heap_new (w : World) (o : Obj) : (w.alloc o).heap[w.heap.size]? = some o := by
 show (w.heap.push o)[w.heap.size]? = _
 simp
theorem HRel.alloc (h : HRel base w0 Z φ H nx w) {b : Nat} (hb : nx <= b) {o : Obj} {x : Blk} {l : Loc} (hlB : l.B = w.heap.size)
  (hx : blkRel Z (φ.set b l) (w.alloc o) l x) :
  HRel base w0 Z (φ.set b l) (H.set b x) (b + 1) (w.alloc o) := by
 have hfr := h.fresh hb
 have hle := PMap.le_set (x := l) hfr
 have hsz : (w.alloc o).heap.size = w.heap.size + 1 := by show (w.heap.push o).size = _; simp
 refine ⟨h.below.alloc o, fun B o' hB => ?_, h.z0, h.gl, fun c y hy => ?_, fun c y hy => ?_, fun c l' hc => ?_, fun c y hy => ?_, ?_, ?_⟩
 ·have := h.z B o' hB
  have hlt : B < w.heap.size := by
   rcases Nat.lt_or_ge B w.heap.size with hlt | hge
   ·exact hlt
   ·rw [Array.getElem?_eq_none hge] at this; cases this
  rw [heap_push _ _ _ hlt]; exact this
 ·unfold PMap.set at hy
  by_cases hc : c = b
  ·omega
  ·rw [if_neg hc] at hy; have := h.fnx c y hy; omega
 ·rw [Heap.get_set] at hy
  by_cases hc : c = b
  ·omega
  ·rw [if_neg hc] at hy; have := h.hnx c y hy; omega
 ·unfold PMap.set at hc
  rw [hsz]
  by_cases hcb : c = b
  ·rw [if_pos hcb] at hc; injection hc with hc; subst hc; omega
  ·rw [if_neg hcb] at hc; have := h.flt c l' hc; omega
 ·rw [Heap.get_set] at hy
  by_cases hcb : c = b
  ·rw [if_pos hcb] at hy; injection hy with hy; subst hy; subst hcb
   exact .inr ⟨l, PMap.set_self _ _ _, by rw [hlB]; exact h.notZ (Nat.le_refl _), hx⟩
  ·rw [if_neg hcb] at hy
   rcases h.own' c y hy with ⟨hg, hf⟩ | ⟨l', hf, hz, hr⟩
   ·exact .inl ⟨hg, by unfold PMap.set; rw [if_neg hcb]; exact hf⟩
   ·exact .inr ⟨l', hle _ _ hf, hz, hr.mono (ZLe.refl _) hle (heap_push _ _ _ (h.flt _ _ hf))⟩
 ·intro c c' y y' l1 l2 hne hy hy' hc hc'
  rw [Heap.get_set] at hy hy'
  unfold PMap.set at hc hc'
  by_cases h1 : c = b
  ·rw [if_pos h1] at hc
   injection hc with hc; subst hc
   by_cases h2 : c' = b
   ·omega
   ·rw [if_neg h2] at hc'; have := h.flt _ _ hc'; omega
  ·rw [if_neg h1] at hc hy
   by_cases h2 : c' = b
   ·rw [if_pos h2] at hc'; injection hc' with hc'; subst hc'; have := h.flt _ _ hc; omega
   ·rw [if_neg h2] at hc' hy'
    exact h.inj c c' y y' l1 l2 hne hy hy' hc hc'
 ·intro c y l1 hy hc hu
  rw [Heap.get_set] at hy
  unfold PMap.set at hc
  by_cases h1 : c = b
  ·rw [if_pos h1] at hc; injection hc with hc; subst hc
   have := h.below.size; omega
  ·rw [if_neg h1] at hc hy
   exact h.ob c y l1 hy hc hu
theorem HRel.kept (h : HRel base w0 Z φ H nx w) {b : Nat} {x : Blk} {l : Loc} (hb : H.get b = some x) (hf : φ b = some l) {w' : World}
  (hos : w'.os = w.os) (htp : w'.tape = w.tape) (hout : w'.output = w.output) (hsz : w.heap.size <= w'.heap.size) (hbl : ∀ k, k ≠ l.B -> k < w.heap.size -> w'.heap[k]? = w.heap[k]?) : KeptW base w0.world w' :=
 ⟨hos.trans h.below.os, htp.trans h.below.tape, hout.trans h.below.output, Nat.le_trans h.below.size hsz, fun k hk hu => by
  rw [hbl k (fun e => by subst e; have := h.ob b x l hb hf hu; omega) (Nat.lt_of_lt_of_le hk h.below.size)]; exact h.below.block k hk hu⟩
theorem HRel.upd (h : HRel base w0 Z φ H nx w) {b : Nat} {x x' : Blk} {l : Loc} (hb : H.get b = some x) (hf : φ b = some l) {w' : World}
  (hos : w'.os = w.os) (htp : w'.tape = w.tape) (hout : w'.output = w.output) (hsz : w.heap.size <= w'.heap.size) (hbl : ∀ k, k ≠ l.B -> k < w.heap.size -> w'.heap[k]? = w.heap[k]?) (hx : blkRel Z φ w' l x') :
  HRel base w0 Z φ (H.set b x') nx w' := by
 obtain ⟨hz, hr⟩ := h.ownAt hb hf
 refine ⟨h.kept hb hf hos htp hout hsz hbl, fun C o hC => ?_, h.z0, h.gl, h.fnx, fun c y hy => ?_, fun c l' hc => by have := h.flt c l' hc; omega, fun c y hy => ?_, ?_, ?_⟩
 ·rw [hbl C (fun e => by subst e; rw [hz] at hC; cases hC) (by
   rcases Nat.lt_or_ge C w.heap.size with hlt | hge
   ·exact hlt
   ·have := h.z C o hC; rw [Array.getElem?_eq_none hge] at this; cases this)]
  exact h.z C o hC
 ·rw [Heap.get_set] at hy
  by_cases hcb : c = b
  ·subst hcb; exact h.hnx c x hb
  ·rw [if_neg hcb] at hy; exact h.hnx c y hy
 ·rw [Heap.get_set] at hy
  by_cases hcb : c = b
  ·rw [if_pos hcb] at hy; injection hy with hy; subst hy; subst hcb
   exact .inr ⟨l, hf, hz, hx⟩
  ·rw [if_neg hcb] at hy
   rcases h.own' c y hy with hgh | ⟨l2, hfc, hzc, hrc⟩
   ·exact .inl hgh
   refine .inr ⟨l2, hfc, hzc, hrc.mono (ZLe.refl _) (PLe.refl _) (hbl l2.B (fun e => ?_) (h.flt _ _ hfc))⟩
   exact h.inj c b y x l2 l hcb hy hb hfc hf e
 ·intro c c' y y' l1 l2 hne hy hy' hc hc'
  rw [Heap.get_set] at hy hy'
  have g : ∀ d z, (if d = b then some x' else H.get d) = some z -> ∃ z', H.get d = some z' := fun d z hd => by
   by_cases e : d = b
   ·subst e; exact ⟨x, hb⟩
   ·rw [if_neg e] at hd; exact ⟨z, hd⟩
  obtain ⟨z1, g1⟩ := g _ _ hy
  obtain ⟨z2, g2⟩ := g _ _ hy'
  exact h.inj c c' z1 z2 l1 l2 hne g1 g2 hc hc'
 ·intro c y l1 hy hc
  rw [Heap.get_set] at hy
  by_cases e : c = b
  ·subst e; exact h.ob c x l1 hb hc
  ·rw [if_neg e] at hy; exact h.ob c y l1 hy hc
end
theorem FrRel.put {Z : ZMap} {φ : PMap} {F : Fr} {a : Act} (h : FrRel Z φ F a.tmps) {dst : Option Tmp} {r : AV} {v : Value} (hd : ∀ d, dst = some d -> d < a.tmps.size) (hr : Rep Z φ r v) :
  FrRel Z φ (F.put dst r) (a.put dst v).tmps := by
 cases dst with
 | none => exact h
 | some d =>
  intro t
  have := hd d rfl
  simp only [Fr.put, Fr.get, Act.put]
  by_cases ht : t = d
  ·subst ht; rw [if_pos rfl]; simpa [Array.getD, this] using hr
  ·rw [if_neg ht]
   have h1 := h t
   simpa [Array.getD_eq_getD_getElem?, Array.getElem?_setIfInBounds, Ne.symm ht] using h1
def lift1 : Value -> AV
 | .bool b => .bool b
 | .int k n => .int k n
 | .string s => .str s.data.toList
 | .pointer none => .nilp
 | .slice none 0 0 => .nils
 | .map none => .nilm
 | .nilFunc => .nilf
 | .nilIface => .nili
 | _ => .undef
def lift : Value -> AV
 | .agg cs => .agg (cs.toList.map lift1)
 | .tuple cs => .tup (cs.toList.map lift1)
 | .iface t v => .iface t (lift1 v)
 | v => lift1 v
theorem rep_lift1 (Z : ZMap) (φ : PMap) (v : Value) : Rep Z φ (lift1 v) v := by
 unfold lift1; split <;> first | (constructor; done) | exact .str _ | exact .undef _
theorem rep_lift (Z : ZMap) (φ : PMap) (v : Value) : Rep Z φ (lift v) v := by
 unfold lift
 split
 ·refine .agg (by simp) fun i v u h1 h2 => ?_
  rw [List.getElem?_map, Array.getElem?_toList, h2] at h1
  simp only [Option.map_some] at h1; injection h1 with h1; subst h1; exact rep_lift1 _ _ _
 ·refine .tup (by simp) fun i v u h1 h2 => ?_
  rw [List.getElem?_map, Array.getElem?_toList, h2] at h1
  simp only [Option.map_some] at h1; injection h1 with h1; subst h1; exact rep_lift1 _ _ _
 ·exact .iface (rep_lift1 _ _ _)
 ·exact rep_lift1 _ _ _
def ev (F : Fr) : Operand -> AV
 | .tmp t => F.get t
 | .const v => lift v
 | .global g => match globVal g with
  | some e => .rp e 0
  | none => .undef
 | .func f => .fn (.func f) [] []
theorem rep_ev {Z : ZMap} {φ : PMap} {F : Fr} {a : Act} (gl : GlobOk Z) (h : FrRel Z φ F a.tmps) (x : Operand) : Rep Z φ (ev F x) (a.eval x) := by
 cases x with
 | tmp t => exact h t
 | const v => exact rep_lift _ _ _
 | global g =>
  simp only [ev]
  split
  ·rename_i e he
   obtain ⟨us, hu⟩ := gl g e he
   refine .rp (off := 0) us (fun j v hj => by rw [Nat.zero_add]; exact (hu j v hj).1) fun j v hj => (hu j v hj).2.mono (ZLe.refl _) fun b x hb => by cases hb
  ·exact .undef _
 | func f => exact .fn rfl rfl (fun i v u h _ => by simp at h) (fun i v u h _ => by simp at h)
end Go.Lom

/- Operations on abstract values that leave memory alone: definitions. -/
namespace Go.Lom
open Go.RowKit
def szOf (P : Program) (t : TypeId) : Option Nat := (P.info? t).map (·.size)
def isAggD : TypeDesc -> Bool
 | .struct _ | .array _ _ => true
 | _ => false
def cellsOf : AV -> Option (List AV)
 | .agg cs => if cs.all oneC then some cs else none
 | .ar t xs => some (xs.flatMap t.enc)
 | v => if oneC v then some [v] else none
def rd (P : Program) (t : TypeId) (e : List AV) (o : Nat) : Option AV := do
 let d <- P.underlying t
 if isAggD d then do
  let n <- szOf P t
  if o + n <= e.length then some (.agg ((e.drop o).take n)) else none
 else e[o]?
def asI : AV -> Option Int
 | .int _ n => some n
 | _ => none
def asB : AV -> Option Bool
 | .bool b => some b
 | _ => none
def asRow : Blk -> Option (Nat × List (List AV))
 | .row s es => some (s, es)
 | .lst t xs => some (t.sz, xs.map t.enc)
 | _ => none
def asMp : Blk -> Option (List (AV × AV))
 | .mp es => some es
 | .tm κ ν l => some (encM κ ν l)
 | .tx κ t l k v _ => some (encM κ (.sl t) l ++ [(κ.val k, v)])
 | _ => none
def addN : Nat -> Nat -> Nat
 | 0, n => n
 | m + 1, n => m + 1 + n
theorem addN_eq (m n : Nat) : addN m n = m + n := by cases m <;> simp [addN]
def mulN : Nat -> Nat -> Nat
 | n, 1 => n
 | n, m => n * m
theorem mulN_eq (m n : Nat) : mulN m n = m * n := by unfold mulN; split <;> simp
def ldArr (P : Program) (t : TypeId) (x : AV) (H : Heap) : Option AV :=
 match x with
 | .ptr b 0 0 => match H.get b with
  | some (.lst τ xs) => match P.underlying t with
   | some (.array _ _) => match szOf P t with
    | some n => if xs.length * τ.sz = n /\ τ.sz = 1 then some (.ar τ xs) else none
    | none => none
   | _ => none
  | _ => none
 | _ => none
def ald (P : Program) (t : TypeId) (x : AV) (H : Heap) : Option AV :=
 match ldArr P t x H with
 | some r => some r
 | none => match x with
  | .ptr b i o => do
   let blk <- H.get b
   let (s, es) <- asRow blk
   let e <- es[i]?
   match rd P t e o with
   | some r => some r
   | none => match es[i + o / s]?.bind fun e => rd P t e (o % s) with
    | some r => some r
    | none => rd P t (es.drop i).flatten o
  | .rp e o => rd P t e o
  | _ => none
def fieldsOf (P : Program) (t : TypeId) : Option (Array Field) :=
 match P.underlying t with
 | some (.struct fs) => some fs
 | _ => none
def afieldAddr (P : Program) (s : TypeId) (x : AV) (f : Nat) : Option AV := do
 let fs <- fieldsOf P s
 let fl <- fs[f]?
 let n <- szOf P fl.type
 if n = 0 then none else
 match x with
 | .ptr b i o => some (.ptr b i (o + fl.offset))
 | .rp e o => some (.rp e (o + fl.offset))
 | _ => none
def afield (P : Program) (s : TypeId) (x : AV) (f : Nat) : Option AV := do
 let fs <- fieldsOf P s
 let fl <- fs[f]?
 match x with
 | .agg cs => rd P fl.type cs fl.offset
 | _ => none
def aindexAddr (P : Program) (t : TypeId) (x : AV) (i : AV) : Option AV := do
 let n <- asI i
 if n < 0 then none else
 match P.underlying t, x with
 | some (.slice e), .sl b s off len _ => if n < len /\ szOf P e = some s then some (.ptr b (off + n.toNat) 0) else none
 | some (.slice e), .rs xs => do
  let s <- szOf P e
  let c <- xs[n.toNat]?
  if c.length = s then some (.rp c 0) else none
 | some (.slice e), .rl t xs => do
  let s <- szOf P e
  let c <- (xs.map t.enc)[n.toNat]?
  if c.length = s then some (.rp c 0) else none
 | some (.array len e), .ptr b j o => if n < len then (szOf P e).map fun s => .ptr b j (addN o (mulN n.toNat s)) else none
 | some (.array len e), .rp c o => if n < len then (szOf P e).map fun s => .rp c (addN o (mulN n.toNat s)) else none
 | _, _ => none
def aindex (P : Program) (t : TypeId) (x : AV) (i : AV) : Option AV := do
 let n <- asI i
 if n < 0 then none else
 match P.underlying t, x with
 | some (.array len e), .agg cs => if n < len then (szOf P e).bind fun s => rd P e cs (n.toNat * s) else none
 | some (.array len e), .ar τ xs => if n < len /\ szOf P e = some τ.sz then xs[n.toNat]?.bind fun x => rd P e (τ.enc x) 0 else none
 | some .string, .str s => do
  let b <- s[n.toNat]?
  some (.int .u8 b.toNat)
 | _, _ => none
def cmpI (op : BinOp) (x y : Int) : Option Bool :=
 match op with
 | .eql => some (x == y)
 | .neq => some (x != y)
 | .lss => some (decide (x < y))
 | .leq => some (decide (x <= y))
 | .gtr => some (decide (x > y))
 | .geq => some (decide (x >= y))
 | _ => none
def bitI (op : BinOp) (k : IntKind) (x y : Int) : Option Int :=
 let a := BitVec.ofInt k.bits x
 let b := BitVec.ofInt k.bits y
 match op with
 | .and => some (k.wrap (a &&& b).toNat)
 | .or => some (k.wrap (a ||| b).toNat)
 | .xor => some (k.wrap (a ^^^ b).toNat)
 | .andNot => some (k.wrap (a &&& ~~~b).toNat)
 | _ => none
def binI (op : BinOp) (k : IntKind) (x y : Int) : Option AV :=
 match op with
 | .add => some (.int k (k.wrap (x + y)))
 | .sub => some (.int k (k.wrap (x - y)))
 | .mul => some (.int k (k.wrap (x * y)))
 | .quo => if y = 0 then none else some (.int k (k.wrap (x.tdiv y)))
 | .rem => if y = 0 then none else some (.int k (x.tmod y))
 | .and | .or | .xor | .andNot => (bitI op k x y).map (.int k)
 | _ => (cmpI op x y).map .bool
def binS (op : BinOp) (x y : List UInt8) : Option AV :=
 let eq := x == y
 let lt := Op.bytesLess x y
 match op with
 | .add => if ((x.length + y.length : Nat) : Int) > IntKind.i64.max then none else some (.str (x ++ y))
 | .eql => some (.bool eq)
 | .neq => some (.bool (!eq))
 | .lss => some (.bool lt)
 | .leq => some (.bool (lt || eq))
 | .gtr => some (.bool (!(lt || eq)))
 | .geq => some (.bool (!lt))
 | _ => none
def eqFs (P : Program) (r : TypeId -> AV -> AV -> Option Bool) (xs ys : List AV) : List Field -> Option Bool
 | [] => some true
 | f :: fs => if f.name = "_" then eqFs P r xs ys fs else do
  let a <- rd P f.type xs f.offset
  let b <- rd P f.type ys f.offset
  let c <- r f.type a b
  if c then eqFs P r xs ys fs else some false
def eqIs (P : Program) (r : TypeId -> AV -> AV -> Option Bool) (e : TypeId) (n : Nat) (xs ys : List AV) : List Nat -> Option Bool
 | [] => some true
 | i :: is => do
  let a <- rd P e xs (i * n)
  let b <- rd P e ys (i * n)
  let c <- r e a b
  if c then eqIs P r e n xs ys is else some false
def intsOf (k : IntKind) : List AV -> Option (List Int)
 | [] => some []
 | .int k' n :: cs => if k' = k then (intsOf k cs).map (n :: ·) else none
 | _ => none
def arrI (k : IntKind) : AV -> Option (List Int)
 | .ar (.i k') xs => if k' = k then some xs else none
 | .agg cs => intsOf k cs
 | _ => none
def arEq (P : Program) (len : Nat) (e : TypeId) (d : Nat) (x y : AV) : Option Bool :=
 match d, P.underlying e with
 | _ + 1, some (.int k) => match arrI k x, arrI k y with
  | some xs, some ys => if szOf P e = some 1 /\ xs.length = len /\ ys.length = len then some (decide (xs = ys)) else none
  | _, _ => none
 | _, _ => none
def aeqIn (P : Program) : Nat -> TypeId -> AV -> AV -> Option Bool
 | 0, _, _, _ => none
 | d + 1, t, x, y =>
  match P.underlying t, x, y with
  | some .bool, .bool a, .bool b => some (a == b)
  | some (.int _), .int k a, .int k' b => if k = k' then some (a == b) else none
  | some .string, .str a, .str b => some (a == b)
  | some (.pointer _), .nilp, .nilp => some true
  | some (.pointer _), .nilp, .ptr _ _ _ | some (.pointer _), .nilp, .rp _ _ | some (.pointer _), .ptr _ _ _, .nilp | some (.pointer _), .rp _ _, .nilp => some false
  | some (.interface _), .nili, .nili => some true
  | some (.interface _), .nili, .iface _ _ | some (.interface _), .iface _ _, .nili => some false
  | some (.slice _), .nils, .nils => some true
  | some (.slice _), .nils, .emp | some (.slice _), .nils, .rs (_ :: _) | some (.slice _), .nils, .sl _ _ _ (_ + 1) _ => some false
  | some (.slice _), .emp, .nils | some (.slice _), .rs (_ :: _), .nils | some (.slice _), .sl _ _ _ (_ + 1) _, .nils => some false
  | some (.map _ _), .nilm, .nilm => some true
  | some (.map _ _), .nilm, .mp _ | some (.map _ _), .mp _, .nilm => some false
  | some (.func _ _ _), .nilf, .nilf => some true
  | some (.func _ _ _), .nilf, .fn _ _ _ | some (.func _ _ _), .fn _ _ _, .nilf => some false
  | some (.struct fs), .agg xs, .agg ys => if P.stoodInHeld t then none else eqFs P (aeqIn P d) xs ys fs.toList
  | some (.array len e), .agg xs, .agg ys => (szOf P e).bind fun n => eqIs P (aeqIn P d) e n xs ys (List.range len)
  | some (.array len e), x, y => arEq P len e d x y
  | _, _, _ => none
def isNilConst : Operand -> Bool
 | .const .nilIface => true
 | _ => false
def abin (P : Program) (op : BinOp) (t : TypeId) (ox oy : Operand) (x y : AV) : Option AV :=
 match op, x, y with
 | .shl, .int k a, .int _ b => if b < 0 then none else some (.int k (k.wrap (a * 2 ^ (min b.toNat k.bits))))
 | .shr, .int k a, .int _ b => if b < 0 then none else some (.int k (a.fdiv (2 ^ (min b.toNat k.bits))))
 | op, .int k a, .int k' b => if k = k' then binI op k a b else none
 | op, .str a, .str b => binS op a b
 | .eql, x, y => if guardOk x y then (aeqIn P 10000 t x y).map .bool else none
 | .neq, x, y => if guardOk x y then (aeqIn P 10000 t x y).map fun b => .bool (!b) else none
 | _, _, _ => none
where
 guardOk (x y : AV) : Bool :=
  match x, y with
  | .nili, .nili => isNilConst ox || isNilConst oy
  | .agg _, .agg _ => !P.eqGuardType P.depth t
  | .ar _ _, .agg _ | .ar _ _, .ar _ _ | .agg _, .ar _ _ => !P.eqGuardType P.depth t
  | .ar _ _, _ | _, .ar _ _ => false
  | .undef, _ | _, .undef => false
  | _, _ => true
def aun (op : UnOp) (x : AV) : Option AV :=
 match op, x with
 | .neg, .int k n => some (.int k (k.wrap (0 - n)))
 | .xor, .int k n => (bitI .xor k (if k.signed then -1 else k.max) n).map (.int k)
 | .not, .bool b => some (.bool (!b))
 | _, _ => none
def byteOf : List AV -> Option UInt8
 | [.int .u8 n] => some (UInt8.ofNat n.toNat)
 | _ => none
def elems (H : Heap) : AV -> Option (List (List AV))
 | .nils => some []
 | .emp => some []
 | .rs xs => some xs
 | .rl t xs => some (xs.map t.enc)
 | .sl b _ off len _ => do
  let blk <- H.get b
  let (_, es) <- asRow blk
  if off + len <= es.length then some ((es.drop off).take len) else none
 | _ => none
def aconv (P : Program) (src dst : TypeId) (x : AV) (H : Heap) : Option AV :=
 match P.underlying src, P.underlying dst, x with
 | some _, some (.int k), .int _ n => some (.int k (k.wrap n))
 | some _, some .string, .str s => some (.str s)
 | some (.slice e), some .string, x =>
  match P.underlying e with
  | some (.int .u8) => do
   let es <- elems H x
   let bs <- es.mapM byteOf
   some (.str bs)
  | _ => none
 | _, _, _ => none
def amkIface (P : Program) (t : TypeId) (x : AV) : Option AV :=
 match P.underlying t with
 | none | some (.interface _) => none
 | some _ => some (.iface t x)
def zeroOf (P : Program) (t : TypeId) : Option AV := ((P.info? t).bind (·.zero)).map lift
def atypeAssert (P : Program) (x : AV) (asserted : TypeId) (commaOk : Bool) : Option AV :=
 match P.underlying asserted, x with
 | none, _ => none
 | some (.interface _), _ => none
 | some _, .nili => if commaOk then (zeroOf P asserted).map fun z => .tup [z, .bool false] else none
 | some _, .iface t v => if t = asserted then some (if commaOk then .tup [v, .bool true] else v) else if commaOk then (zeroOf P asserted).map fun z => .tup [z, .bool false] else none
 | _, _ => none
def bnd (x : Option AV) (dflt most : Nat) : Option Nat :=
 match x with
 | none => some dflt
 | some v => do
  let n <- asI v
  if 0 <= n /\ n <= most then some n.toNat else none
def mxB (mx : Option AV) (most : Nat) : Option (Option Nat) :=
 match mx with
 | some v => (bnd (some v) 0 most).map some
 | none => some none
def newCap (m : Option Nat) (l : Nat) (cap : Option Nat) : Option Nat :=
 match m with
 | some m => some (m - l)
 | none => cap.map (· - l)
def fitsS (xs : List (List AV)) (s : Nat) : Bool :=
 match xs with
 | [] => true
 | e :: _ => e.length == s
def aslice (P : Program) (t : TypeId) (x : AV) (lo hi mx : Option AV) : Option AV :=
 match P.underlying t, x with
 | some .string, .str s => if mx.isSome then none else do
  let h <- bnd hi s.length s.length
  let l <- bnd lo 0 h
  some (.str ((s.take h).drop l))
 | some (.slice e), .sl b s off len cap => if szOf P e ≠ some s \/ (mx.isSome && hi.isNone) = true then none else do
  let m <- mxB mx (cap.getD len)
  let h <- bnd hi len (m.getD (cap.getD len))
  let l <- bnd lo 0 h
  some (.sl b s (off + l) (h - l) (newCap m l cap))
 | some (.slice e), .rs xs => if (mx.isSome && hi.isNone) = true then none else do
  let s <- szOf P e
  let m <- mxB mx xs.length
  let h <- bnd hi xs.length (m.getD xs.length)
  let l <- bnd lo 0 h
  if fitsS xs s = false then none else some (.rs ((xs.take h).drop l))
 | some (.slice e), .rl t xs => if (mx.isSome && hi.isNone) = true then none else do
  let s <- szOf P e
  let m <- mxB mx xs.length
  let h <- bnd hi xs.length (m.getD xs.length)
  let l <- bnd lo 0 h
  if t.sz = s then some (.rl t ((xs.take h).drop l)) else none
 | some (.slice e), .nils => if (mx.isSome && hi.isNone) = true then none else do
  let _ <- szOf P e
  let m <- mxB mx 0
  let h <- bnd hi 0 (m.getD 0)
  let _ <- bnd lo 0 h
  some .nils
 | some (.slice e), .emp => if (mx.isSome && hi.isNone) = true then none else do
  let _ <- szOf P e
  let m <- mxB mx 0
  let h <- bnd hi 0 (m.getD 0)
  let _ <- bnd lo 0 h
  some .emp
 | _, _ => none
def aextract (x : AV) (i : Nat) : Option AV :=
 match x with
 | .tup vs => vs[i]?
 | _ => none
def splice (e : List AV) (o : Nat) : List AV -> List AV
 | [] => e
 | v :: cs => splice (e.set o v) (o + 1) cs
theorem splice_get : ∀ (cs e : List AV) (o x : Nat), (splice e o cs)[x]? = if o <= x /\ x < o + cs.length /\ x < e.length then cs[x - o]? else e[x]?
 | [], e, o, x => by simp only [splice, List.length_nil]; rw [if_neg (by omega)]
 | u :: us, c, o, x => by
  simp only [splice]
  rw [splice_get us]
  simp only [List.length_set, List.length_cons, List.getElem?_set]
  by_cases h1 : o = x
  ·subst h1
   rw [if_neg (by omega), if_pos rfl]
   by_cases h2 : o < c.length
   ·rw [if_pos h2, if_pos (by omega)]; simp
   ·rw [if_neg h2, if_neg (by omega)]; rw [List.getElem?_eq_none (by omega)]
  ·rw [if_neg h1]
   by_cases h2 : o + 1 <= x /\ x < o + 1 + us.length /\ x < c.length
   ·rw [if_pos h2, if_pos (by omega)]
    have : x - o = (x - (o + 1)) + 1 := by omega
    rw [this, List.getElem?_cons_succ]
   ·rw [if_neg h2, if_neg (by omega)]
def spliceF (e : List AV) (o : Nat) (cs : List AV) : List AV := match cs with
 | [] => e
 | [v] => e.set o v
 | cs => match Nat.ble (o + cs.length) e.length with
  | true => match Nat.beq o 0 with
   | true => cs ++ e.drop cs.length
   | false => e.take o ++ (cs ++ e.drop (o + cs.length))
  | false => splice e o cs
theorem spliceF_eq (e : List AV) (o : Nat) (cs : List AV) : spliceF e o cs = splice e o cs := by
 have key : o + cs.length <= e.length -> e.take o ++ (cs ++ e.drop (o + cs.length)) = splice e o cs := fun hle => by
  apply List.ext_getElem?
  intro x
  rw [splice_get]
  by_cases h1 : x < o
  ·rw [List.getElem?_append_left (by rw [List.length_take]; omega), List.getElem?_take, if_pos h1, if_neg (by omega)]
  ·rw [List.getElem?_append_right (by rw [List.length_take]; omega), List.length_take, Nat.min_eq_left (by omega)]
   by_cases h2 : x < o + cs.length
   ·rw [List.getElem?_append_left (by omega), if_pos (by omega)]
   ·rw [List.getElem?_append_right (by omega), List.getElem?_drop, if_neg (by omega)]
    congr 1; omega
 unfold spliceF
 split
 ·rfl
 ·rfl
 ·split
  ·rename_i h
   have hle := Nat.le_of_ble_eq_true h
   split
   ·rename_i h0
    have h0 := Nat.eq_of_beq_eq_true h0
    subst h0
    have := key hle
    simpa using this
   ·exact key hle
  ·rfl
def afill (place : Nat -> Option (Nat × Nat)) (cells : List AV) : List (Nat × AV) -> Option (List AV)
 | [] => some cells
 | (i, v) :: rest => do
  let (off, size) <- place i
  let cs <- cellsOf v
  if cs.length = size /\ off + cs.length <= cells.length then afill place (spliceF cells off cs) rest else none
def placesOf (P : Program) (fs : Array Field) : Option (List (Nat × Nat)) := fs.toList.mapM fun f => (szOf P f.type).map fun n => (f.offset, n)
def zeroCellsOf (P : Program) (t : TypeId) : Option (List AV) := (zeroOf P t).bind cellsOf
def abuild (P : Program) (t : TypeId) (parts : List (Nat × AV)) : Option AV := do
 let z <- zeroCellsOf P t
 match P.underlying t with
 | some (.struct fs) => do
  let pl <- placesOf P fs
  (afill (fun i => pl[i]?) z parts).map .agg
 | some (.array _ e) => do
  let n <- szOf P e
  (afill (fun i => some (i * n, n)) z parts).map .agg
 | _ => none
def alen (P : Program) (t : TypeId) (x : AV) (H : Heap) : Option AV :=
 match P.underlying t, x with
 | some .string, .str s => some (.int .i64 s.length)
 | some (.array n _), _ => some (.int .i64 n)
 | some (.pointer a), _ => match P.underlying a with
  | some (.array n _) => some (.int .i64 n)
  | _ => none
 | some (.slice _), .nils => some (.int .i64 0)
 | some (.slice _), .emp => some (.int .i64 0)
 | some (.slice _), .rs xs => some (.int .i64 xs.length)
 | some (.slice _), .rl _ xs => some (.int .i64 xs.length)
 | some (.slice _), .sl _ _ _ len _ => some (.int .i64 len)
 | some (.map _ _), .nilm => some (.int .i64 0)
 | some (.map _ _), .mp b => do
  let blk <- H.get b
  let es <- asMp blk
  some (.int .i64 es.length)
 | _, _ => none
def minI (x y : AV) : Option AV :=
 match x, y with
 | .int k a, .int _ b => some (.int k (if b < a then b else a))
 | _, _ => none
def maxI (x y : AV) : Option AV :=
 match x, y with
 | .int k a, .int _ b => some (.int k (if b > a then b else a))
 | _, _ => none
def foldO (f : AV -> AV -> Option AV) : AV -> List AV -> Option AV
 | x, [] => some x
 | x, y :: l => (f x y).bind fun z => foldO f z l
def keyEq (P : Program) (kt : TypeId) (x y : AV) : Option Bool := aeqIn P 10000 kt x y
def findK (P : Program) (kt : TypeId) (k : AV) : List (AV × AV) -> Nat -> Option (Option (Nat × AV))
 | [], _ => some none
 | (x, v) :: es, i => do
  let r <- keyEq P kt k x
  if r then some (some (i, v)) else findK P kt k es (i + 1)
def keyOk (P : Program) : Nat -> TypeId -> AV -> Bool
 | 0, _, _ => false
 | d + 1, t, x =>
  match P.underlying t, x with
  | some .bool, _ | some (.int _), _ | some .string, _ => true
  | some (.array len e), .agg cs => match szOf P e with
   | some n => (List.range len).all fun i => match rd P e cs (i * n) with | some y => keyOk P d e y | none => false
   | none => false
  | some (.struct fs), .agg cs => fs.toList.all fun f => f.name == "_" || match rd P f.type cs f.offset with | some y => keyOk P d f.type y | none => false
  | _, _ => false
def mapT (P : Program) (t : TypeId) : Option (TypeId × TypeId) :=
 match P.underlying t with
 | some (.map k e) => some (k, e)
 | _ => none
def entriesOf (H : Heap) : AV -> Option (List (AV × AV))
 | .nilm => some []
 | .mp b => (H.get b).bind asMp
 | .rt κ ν l => some (encM κ ν l)
 | _ => none
def alookup0 (P : Program) (t : TypeId) (x k : AV) (ok : Bool) (H : Heap) : Option AV := do
 let (kt, et) <- mapT P t
 let es <- entriesOf H x
 if keyOk P 10000 kt k = false then none else
 let r <- findK P kt k es 0
 match r with
 | some (_, v) => some (if ok then .tup [v, .bool true] else v)
 | none => do
  let z <- zeroOf P et
  some (if ok then .tup [z, .bool false] else z)
def findU (P : Program) (kt : TypeId) (k : AV) : List (AV × AV) -> Option (Option AV)
 | [] => some none
 | (x, v) :: es => do
  let r <- keyEq P kt k x
  let o <- findU P kt k es
  if r then (match o with | none => some (some v) | some _ => none) else some o
def alookupR (P : Program) (t : TypeId) (es : List (AV × AV)) (k : AV) (ok : Bool) : Option AV := do
 let (kt, et) <- mapT P t
 if keyOk P 10000 kt k = false then none else
 let r <- findU P kt k es
 match r with
 | some v => some (if ok then .tup [v, .bool true] else v)
 | none => do
  let z <- zeroOf P et
  some (if ok then .tup [z, .bool false] else z)
def alookup (P : Program) (t : TypeId) (x k : AV) (ok : Bool) (H : Heap) : Option AV :=
 match x with
 | .rm es => alookupR P t es k ok
 | x => alookup0 P t x k ok H
def anilCheck (x : AV) : Option AV :=
 match x with
 | .ptr _ _ _ | .rp _ _ | .iface _ _ | .fn (.func _) _ _ => some x
 | _ => none
def aqCall (P : Program) (c : Call) (F : Fr) (H : Heap) : Option AV :=
 match c.callee with
 | .builtin .len => match c.args.toList, c.argTypes.toList with
  | [x], [t] => alen P t (ev F x) H
  | _, _ => none
 | .builtin .min => match c.args.toList with
  | x :: l => foldO minI (ev F x) (l.map (ev F))
  | [] => none
 | .builtin .max => match c.args.toList with
  | x :: l => foldO maxI (ev F x) (l.map (ev F))
  | [] => none
 | _ => none
def aq (P : Program) (op : Op) (F : Fr) (H : Heap) : Option AV :=
 match op with
 | .move x | .assign x => some (ev F x)
 | .pick c a b => (asB (ev F c)).map fun t => if t then ev F a else ev F b
 | .load t a => ald P t (ev F a) H
 | .nilCheck x => anilCheck (ev F x)
 | .binOp op t x y _ => abin P op t x y (ev F x) (ev F y)
 | .unOp op _ x => aun op (ev F x)
 | .convert s d x => aconv P s d (ev F x) H
 | .makeInterface t x => amkIface P t (ev F x)
 | .typeAssert x _ t ok => atypeAssert P (ev F x) t ok
 | .makeFunc fn first cap => some (.fn fn (first.toList.map (ev F)) (cap.toList.map (ev F)))
 | .slice t x lo hi mx => aslice P t (ev F x) (lo.map (ev F)) (hi.map (ev F)) (mx.map (ev F))
 | .fieldAddr t x f => afieldAddr P t (ev F x) f
 | .field t x f => afield P t (ev F x) f
 | .indexAddr t x i => aindexAddr P t (ev F x) (ev F i)
 | .index t x i => aindex P t (ev F x) (ev F i)
 | .lookup t x k ok => alookup P t (ev F x) (ev F k) ok H
 | .extract x i => aextract (ev F x) i
 | .build t ps => abuild P t (ps.toList.map fun p => (p.1, ev F p.2))
 | .call c => aqCall P c F H
 | _ => none
end Go.Lom

/- Operations on abstract values that leave memory alone: they are sound. -/
namespace Go.Lom
open Go.RowKit
section
variable {P : Program} {base : Nat -> Prop} {w0 : Start} {Z : ZMap} {φ : PMap} {H : Heap} {nx : Nat} {w : World}
theorem run_bind' {α β : Type} {s : Sem α} {f : α -> Sem β} {w w' : World} {x : α} {r : Result β} (h : s.run P w = .ok x w') (h2 : (f x).run P w' = r) : (s >>= f).run P w = r := by
 rw [Sem.run_bind, h]; exact h2
theorem run_szOf {t n : Nat} (h : szOf P t = some n) (w : World) : (sizeOf t).run P w = .ok n w := by
 unfold szOf at h
 cases hi : P.info? t with
 | none => simp [hi] at h
 | some i =>
  simp only [hi, Option.map_some, Option.some.injEq] at h; subst h
  simp [sizeOf, typeInfo, hi, go_sem]
theorem run_isAgg {t : TypeId} {d : TypeDesc} (h : P.underlying t = some d) (w : World) : (isAgg t).run P w = .ok (isAggD d) w := by
 unfold isAgg
 refine run_bind' (Go.run_underlying h w) ?_
 cases d <;> rfl
def CellsAt (Z : ZMap) (φ : PMap) (w : World) (B x : Nat) (e : List AV) : Prop :=
 ∀ (j : Nat) (v : AV), e[j]? = some v -> ∃ u, w.cell? ⟨B, x + j, none⟩ = some u /\ Rep Z φ v u
theorem run_load_cell {a : Addr} {u : Value} (h : w.cell? a = some u) : (load a).run P w = .ok u w := by
 simp [load, Sem.run, h]
theorem add_none (B x n : Nat) : (⟨B, x, none⟩ : Addr).add n = ⟨B, x + n, none⟩ := by
 unfold Addr.add; split <;> simp_all
theorem run_loadVar {t : TypeId} {e : List AV} {o B x : Nat} {r : AV} (h : rd P t e o = some r) (hc : CellsAt Z φ w B x e) :
  ∃ v, (loadVar t ⟨B, x + o, none⟩).run P w = .ok v w /\ Rep Z φ r v := by
 unfold rd at h
 cases hu : P.underlying t with
 | none => simp [hu] at h
 | some d =>
  simp only [hu, Option.bind_eq_bind, Option.bind_some] at h
  unfold loadVar
  by_cases ha : isAggD d = true
  ·rw [if_pos ha] at h
   simp only [Option.bind_eq_some_iff] at h
   obtain ⟨n, hn, h⟩ := h
   by_cases hl : o + n <= e.length
   ·rw [if_pos hl] at h; injection h with h; subst h
    have hex : ∀ j, j < n -> ∃ u, w.cell? ⟨B, x + o + j, none⟩ = some u /\ ∀ v, e[o + j]? = some v -> Rep Z φ v u := fun j hj => by
     have he : e[o + j]? = some (e[o + j]'(by omega)) := List.getElem?_eq_getElem (by omega)
     obtain ⟨u, hu, hr⟩ := hc (o + j) _ he
     exact ⟨u, by rw [Nat.add_assoc]; exact hu, fun v hv => by rw [he] at hv; injection hv with hv; subst hv; exact hr⟩
    have hF : ∃ f : Nat -> Value, ∀ j, j < n -> w.cell? ⟨B, x + o + j, none⟩ = some (f j) /\ ∀ v, e[o + j]? = some v -> Rep Z φ v (f j) :=
     ⟨fun j => if hj : j < n then Classical.choose (hex j hj) else Go.undef, fun j hj => by simp only [hj, dif_pos]; exact Classical.choose_spec (hex j hj)⟩
    obtain ⟨f, hf⟩ := hF
    refine ⟨.agg ((List.range n).map f).toArray, ?_, .agg (by simp; omega) fun i v u hi hu' => ?_⟩
    ·refine run_bind' (run_isAgg hu w) ?_
     rw [if_pos ha]
     refine run_bind' (run_szOf hn w) (run_bind' (run_loadCells w _ n f fun j hj => by rw [add_none]; exact (hf j hj).1) rfl)
    ·have hin : i < n := by
      have := List.getElem?_eq_some_iff.1 hi
      obtain ⟨hlt, _⟩ := this
      simp at hlt; omega
     simp [hin] at hu'
     subst hu'
     refine (hf i hin).2 v ?_
     rw [List.getElem?_take, if_pos hin, List.getElem?_drop] at hi
     exact hi
   ·rw [if_neg hl] at h; cases h
  ·rw [if_neg ha] at h
   obtain ⟨u, hcell, hr⟩ := hc o r h
   refine ⟨u, ?_, hr⟩
   refine run_bind' (run_isAgg hu w) ?_
   rw [if_neg ha]
   exact run_load_cell hcell
theorem run_part {t : TypeId} {e : List AV} {o : Nat} {r : AV} {us : Array Value} (h : rd P t e o = some r) (hc : Reps Z φ e us) :
  ∃ v, (part t us o).run P w = .ok v w /\ Rep Z φ r v := by
 unfold rd at h
 cases hu : P.underlying t with
 | none => simp [hu] at h
 | some d =>
  simp only [hu, Option.bind_eq_bind, Option.bind_some] at h
  unfold part
  by_cases ha : isAggD d = true
  ·rw [if_pos ha] at h
   simp only [Option.bind_eq_some_iff] at h
   obtain ⟨n, hn, h⟩ := h
   by_cases hl : o + n <= e.length
   ·rw [if_pos hl] at h; injection h with h; subst h
    refine ⟨.agg (us.extract o (o + n)), ?_, .agg (by simp; have := hc.1; omega) fun i v u hi hu' => ?_⟩
    ·refine run_bind' (run_isAgg hu w) ?_
     rw [if_pos ha]
     exact run_bind' (run_szOf hn w) rfl
    ·have hin : i < n := by
      obtain ⟨hlt, _⟩ := List.getElem?_eq_some_iff.1 hi
      simp at hlt; omega
     refine hc.2 (o + i) v u ?_ ?_
     ·rw [List.getElem?_take, if_pos hin, List.getElem?_drop] at hi
      exact hi
     ·rw [Array.getElem?_extract] at hu'
      split at hu'
      ·exact hu'
      ·cases hu'
   ·rw [if_neg hl] at h; cases h
  ·rw [if_neg ha] at h
   have hlt : o < us.size := by have := (List.getElem?_eq_some_iff.1 h).1; have := hc.1; omega
   refine ⟨us[o], ?_, hc.2 o r _ h (Array.getElem?_eq_getElem hlt)⟩
   refine run_bind' (run_isAgg hu w) ?_
   rw [if_neg ha]
   simp [Array.getElem?_eq_getElem hlt, go_sem]
theorem asRow_rel {l : Loc} {blk : Blk} {s : Nat} {es : List (List AV)} (h : asRow blk = some (s, es)) (hr : blkRel Z φ w l blk) : rowRel Z φ w l s es := by
 cases blk <;> simp [asRow] at h
 ·obtain ⟨rfl, rfl⟩ := h; exact hr
 ·obtain ⟨rfl, rfl⟩ := h; exact hr
theorem HRel.rowOf (h : HRel base w0 Z φ H nx w) {b : Nat} {blk : Blk} {s : Nat} {es : List (List AV)} (hb : H.get b = some blk) (hrow : asRow blk = some (s, es)) {l : Loc}
  (hf : φ b = some l) : Z l.B = none /\ rowRel Z φ w l s es :=
 let ⟨hz, hr⟩ := h.ownAt hb hf; ⟨hz, asRow_rel hrow hr⟩
theorem HRel.cellsAt' (h : HRel base w0 Z φ H nx w) {b i : Nat} {blk : Blk} {s : Nat} {es : List (List AV)} {e : List AV} (hb : H.get b = some blk) (hrow : asRow blk = some (s, es)) (hi : es[i]? = some e) {l : Loc}
  (hf : φ b = some l) : l.s = s /\ e.length = s /\ e.all oneC = true /\ CellsAt Z φ w l.B (l.ob + i * s) e := by
 obtain ⟨hz, hs, hlim, c, T, fz, hw, hsz, _, he⟩ := h.rowOf hb hrow hf
 subst hs
 refine ⟨rfl, (he i e hi).1, (he i e hi).2.1, fun j v hj => ?_⟩
 obtain ⟨u, hu, hr⟩ := (he i e hi).2.2 j v hj
 exact ⟨u, by simp only [World.cell?, hw]; simpa using hu, hr⟩
theorem flat_get {s : Nat} : ∀ {es : List (List AV)}, (∀ e ∈ es, e.length = s) -> ∀ {k : Nat} {v : AV}, es.flatten[k]? = some v -> ∃ i e j, es[i]? = some e /\ e[j]? = some v /\ j < s /\ k = i * s + j
 | [], _, k, v, h => by simp at h
 | e :: es, hl, k, v, h => by
  have he := hl e (List.mem_cons_self ..)
  rw [List.flatten_cons] at h
  by_cases hk : k < e.length
  ·rw [List.getElem?_append_left hk] at h
   exact ⟨0, e, k, rfl, h, by omega, by omega⟩
  ·rw [List.getElem?_append_right (by omega)] at h
   obtain ⟨i, e', j, h1, h2, h3, h4⟩ := flat_get (fun e' he' => hl e' (List.mem_cons_of_mem _ he')) h
   refine ⟨i + 1, e', j, by simpa using h1, h2, h3, ?_⟩
   rw [Nat.add_mul, Nat.one_mul]; omega
theorem HRel.cellsFlat (h : HRel base w0 Z φ H nx w) {b i : Nat} {blk : Blk} {s : Nat} {es : List (List AV)} (hb : H.get b = some blk) (hrow : asRow blk = some (s, es)) {l : Loc}
  (hf : φ b = some l) : CellsAt Z φ w l.B (l.ob + i * l.s) (es.drop i).flatten := by
 obtain ⟨hz, hs, hlim, c, T, fz, hw, hsz, _, he⟩ := h.rowOf hb hrow hf
 subst hs
 intro k v hk
 obtain ⟨i', e, j, h1, h2, h3, rfl⟩ := flat_get (s := l.s) (fun e he' => by
  obtain ⟨m, hm⟩ := List.mem_iff_getElem?.1 (List.mem_of_mem_drop he')
  exact (he m e hm).1) hk
 rw [List.getElem?_drop] at h1
 obtain ⟨u, hu, hr⟩ := (he (i + i') e h1).2.2 j v h2
 refine ⟨u, ?_, hr⟩
 simp only [World.cell?, hw]
 have : l.ob + i * l.s + (i' * l.s + j) = l.ob + (i + i') * l.s + j := by rw [Nat.add_mul]; omega
 rw [this]
 simpa using hu
theorem HRel.zcellAt (h : HRel base w0 Z φ H nx w) {B x : Nat} {u : Value} (hz : zcell Z B x = some u) : w.cell? ⟨B, x, none⟩ = some u := by
 unfold zcell at hz
 cases hZ : Z B with
 | none => rw [hZ] at hz; cases hz
 | some o =>
  rw [hZ] at hz
  have := h.z B o hZ
  cases o <;> simp at hz
  simp [World.cell?, this, hz]
theorem flat_map {α : Type} (f : α -> List AV) (xs : List α) : (xs.map f).flatten = xs.flatMap f := by rw [List.flatMap_def]
theorem sound_load (h : HRel base w0 Z φ H nx w) {t : TypeId} {x r : AV} {u : Value} (hx : Rep Z φ x u) (hr : ald P t x H = some r) :
  ∃ v, (Instr.loadAt t u).run P w = .ok v w /\ Rep Z φ r v := by
 unfold ald at hr
 split at hr
 ·rename_i q hq
  injection hr with hr; subst hr
  unfold ldArr at hq
  split at hq
  rotate_left
  ·cases hq
  rename_i b
  split at hq
  rotate_left
  ·cases hq
  rename_i τ xs hb
  split at hq
  rotate_left
  ·cases hq
  rename_i len e hu
  split at hq
  rotate_left
  ·cases hq
  rename_i n hn
  split at hq
  rotate_left
  ·cases hq
  rename_i hlen
  have hlen := hlen.1
  injection hq with hq; subst hq
  cases hx with
  | ptr hf =>
  have hfl := h.cellsFlat (i := 0) hb rfl hf
  rw [List.drop_zero, flat_map] at hfl
  have hsz : (xs.flatMap τ.enc).length = n := by rw [flatMap_len τ.enc_length]; exact hlen
  obtain ⟨v, hv, hr⟩ := run_loadVar (P := P) (t := t) (o := 0) (r := .agg (xs.flatMap τ.enc)) (by simp [rd, hu, isAggD, hn, hsz, List.take_of_length_le (Nat.le_of_eq hsz)]) hfl
  exact ⟨v, hv, hr.toAr⟩
 cases hx with
 | ptr hf =>
  rename_i b i o l _
  simp only [Option.bind_eq_bind, Option.bind_eq_some_iff] at hr
  obtain ⟨blk, hb, ⟨s2, es⟩, hrow, e, he, hr⟩ := hr
  split at hr
  ·rename_i q hq
   injection hr with hr; subst hr
   obtain ⟨rfl, _, _, hc⟩ := h.cellsAt' hb hrow he hf
   exact run_loadVar hq hc
  ·split at hr
   ·rename_i q hq
    injection hr with hr; subst hr
    simp only [Option.bind_eq_some_iff] at hq
    obtain ⟨e', he', hq⟩ := hq
    obtain ⟨rfl, _, _, hc⟩ := h.cellsAt' hb hrow he' hf
    obtain ⟨v, hv, hr⟩ := run_loadVar hq hc
    refine ⟨v, ?_, hr⟩
    have e1 : l.ob + (i + o / l.s) * l.s + o % l.s = l.ob + i * l.s + o := by
     have := Nat.div_add_mod o l.s
     rw [Nat.add_mul, Nat.mul_comm (o / l.s)]; omega
    rw [e1] at hv
    exact hv
   ·exact run_loadVar hr (h.cellsFlat hb hrow hf)
 | rp us h1 h2 =>
  exact run_loadVar hr fun j v hj => ⟨us j, h.zcellAt (h1 j v hj), h2 j v hj⟩
 | _ => simp at hr
theorem run_underlying' {t : TypeId} {d : TypeDesc} (h : P.underlying t = some d) (w : World) : (underlying t).run P w = .ok d w := Go.run_underlying h w
theorem fieldsOf_some {t : TypeId} {fs : Array Field} (h : fieldsOf P t = some fs) : P.underlying t = some (.struct fs) := by
 unfold fieldsOf at h
 split at h
 ·rename_i h2; injection h with h; subst h; exact h2
 ·cases h
theorem sound_fieldAddr {t : TypeId} {x r : AV} {u : Value} {f : Nat} (hx : Rep Z φ x u) (hr : afieldAddr P t x f = some r) :
  ∃ v, (Instr.fieldAt t u f).run P w = .ok v w /\ Rep Z φ r v := by
 unfold afieldAddr at hr
 simp only [Option.bind_eq_bind, Option.bind_eq_some_iff] at hr
 obtain ⟨fs, hfs, fl, hfl, n, hn, hr⟩ := hr
 have hu := fieldsOf_some hfs
 have key : ∀ B x : Nat, (Instr.fieldAt t (.pointer (some ⟨B, x, none⟩)) f).run P w = .ok (.pointer (some ⟨B, x + fl.offset, none⟩)) w := fun B x => by
  by_cases hn0 : n = 0
  ·rw [if_pos hn0] at hr; cases hr
  unfold Instr.fieldAt
  refine run_bind' (run_underlying' hu w) ?_
  simp only [hfl]
  refine run_bind' (x := (⟨B, x, none⟩ : Addr)) (w' := w) rfl ?_
  refine run_bind' (x := (⟨B, x + fl.offset, none⟩ : Addr)) (w' := w) ?_ rfl
  unfold fieldPlace
  refine run_bind' (run_szOf hn w) ?_
  rw [if_neg hn0, add_none]; rfl
 by_cases hn0 : n = 0
 ·rw [if_pos hn0] at hr; cases hr
 rw [if_neg hn0] at hr
 cases hx with
 | ptr hf =>
  injection hr with hr; subst hr
  exact ⟨_, key _ _, by rw [Nat.add_assoc]; exact .ptr hf⟩
 | rp us h1 h2 =>
  injection hr with hr; subst hr
  exact ⟨_, key _ _, by rw [Nat.add_assoc]; exact .rp us h1 h2⟩
 | _ => cases hr
theorem Rep.reps {cs : List AV} {us : Array Value} (h : Rep Z φ (.agg cs) (.agg us)) : Reps Z φ cs us := by
 cases h with | agg hl h => exact ⟨hl, h⟩
theorem sound_field {t : TypeId} {x r : AV} {u : Value} {f : Nat} (hx : Rep Z φ x u) (hr : afield P t x f = some r) :
  ∃ v, (Instr.field t u f).run P w = .ok v w /\ Rep Z φ r v := by
 unfold afield at hr
 simp only [Option.bind_eq_bind, Option.bind_eq_some_iff] at hr
 obtain ⟨fs, hfs, fl, hfl, hr⟩ := hr
 have hu := fieldsOf_some hfs
 cases hx with
 | agg hl h =>
  obtain ⟨v, hv, hrep⟩ := run_part (w := w) hr ⟨hl, h⟩
  refine ⟨v, ?_, hrep⟩
  unfold Instr.field
  refine run_bind' (run_underlying' hu w) ?_
  simp only [hfl]
  exact run_bind' (x := _) (w' := w) rfl hv
 | _ => simp at hr
theorem asI_some {x : AV} {n : Int} {u : Value} (h : asI x = some n) (hx : Rep Z φ x u) : ∃ k, u = .int k n := by
 cases hx <;> simp [asI] at h
 subst h; exact ⟨_, rfl⟩
theorem run_indexAt_slice {t e : TypeId} {a : Addr} {len c s : Nat} {k : IntKind} {n : Int} (hu : P.underlying t = some (.slice e)) (hs : szOf P e = some s) (h0 : 0 <= n) (hlt : n < len) (w : World) :
  (Instr.indexAt t (.slice (some a) len c) (.int k n)).run P w = .ok (.pointer (some (a.add (n.toNat * s)))) w := by
 simp [Instr.indexAt, asIntOf, Sem.run_bind, run_underlying' hu, run_szOf hs, h0, hlt, go_sem]
theorem run_indexAt_array {t e : TypeId} {a : Addr} {len s : Nat} {k : IntKind} {n : Int} (hu : P.underlying t = some (.array len e)) (hs : szOf P e = some s) (h0 : 0 <= n) (hlt : n < len) (w : World) :
  (Instr.indexAt t (.pointer (some a)) (.int k n)).run P w = .ok (.pointer (some (a.add (n.toNat * s)))) w := by
 simp [Instr.indexAt, Instr.sureAddr, asIntOf, Sem.run_bind, run_underlying' hu, run_szOf hs, h0, hlt, go_sem]
theorem sound_indexAddr {t : TypeId} {x i r : AV} {u ui : Value} (hx : Rep Z φ x u) (hi : Rep Z φ i ui) (hr : aindexAddr P t x i = some r) :
  ∃ v, (Instr.indexAt t u ui).run P w = .ok v w /\ Rep Z φ r v := by
 unfold aindexAddr at hr
 simp only [Option.bind_eq_bind, Option.bind_eq_some_iff] at hr
 obtain ⟨n, hn, hr⟩ := hr
 obtain ⟨k, rfl⟩ := asI_some hn hi
 by_cases hneg : n < 0
 ·rw [if_pos hneg] at hr; cases hr
 rw [if_neg hneg] at hr
 cases hu : P.underlying t with
 | none => simp [hu] at hr
 | some d =>
  rw [hu] at hr
  cases d with
  | slice e =>
   have fin : ∀ (a : Addr) (len c s : Nat), n < len -> szOf P e = some s -> ∀ q : Addr, q = a.add (n.toNat * s) ->
     (Instr.indexAt t (.slice (some a) len c) (.int k n)).run P w = .ok (.pointer (some q)) w := by
    intro a len c s hlt hs q hq
    subst hq
    exact run_indexAt_slice hu hs (by omega) hlt w
   have rsK : ∀ (xs : List (List AV)) (v : Value), Rep Z φ (.rs xs) v -> ((szOf P e).bind fun s => xs[n.toNat]?.bind fun c => if c.length = s then some (.rp c 0) else none) = some r ->
     ∃ q, (Instr.indexAt t v (.int k n)).run P w = .ok q w /\ Rep Z φ r q := by
    intro xs v hx hr
    cases hx with
    | rs0 => simp at hr
    | rs us hxn hc ha h0 h1 h2 =>
     simp only [Option.bind_eq_some_iff] at hr
     obtain ⟨s, hs, c, hcx, hr⟩ := hr
     split at hr
     ·rename_i hcl
      injection hr with hr; subst hr
      rename_i B off cc s' nn a
      have hlt : n.toNat < xs.length := (List.getElem?_eq_some_iff.1 hcx).1
      rcases ha with rfl | h00
      ·refine ⟨_, fin _ _ _ s (by omega) hs _ (by rw [add_none]), ?_⟩
       have e2 : s' = s := by rw [<- (h0 _ _ hcx).1, hcl]
       subst e2
       have := Rep.rp (Z := Z) (φ := φ) (e := c) (o := 0) (B := B) (off := off + n.toNat * s') (us n.toNat) (fun j v hj => h1 _ _ j v hcx hj) (fun j v hj => h2 _ _ j v hcx hj)
       simpa using this
      ·omega
     ·cases hr
   cases hx with
   | sl hf hls hc hl hm ha =>
    subst hls
    simp only at hr
    split at hr
    ·rename_i hh
     injection hr with hr; subst hr
     rcases ha with rfl | hc0
     ·refine ⟨_, fin _ _ _ _ hh.1 hh.2 _ (by rw [add_none]), ?_⟩
      rename_i b off len c l cap
      have e1 : l.ob + off * l.s + n.toNat * l.s = l.ob + (off + n.toNat) * l.s + 0 := by rw [Nat.add_mul]; omega
      rw [e1]
      exact .ptr hf
     ·have := hh.1; omega
    ·cases hr
   | sl0n hc =>
    simp only at hr
    split at hr
    ·rename_i hh; have := hh.1; simp at this; omega
    ·cases hr
   | sl0s hc a =>
    simp only at hr
    split at hr
    ·rename_i hh; have := hh.1; simp at this; omega
    ·cases hr
   | rl hx => exact rsK _ _ hx (by simpa only [Option.bind_eq_bind] using hr)
   | rs us hxn hc ha h0 h1 h2 => exact rsK _ _ (.rs us hxn hc ha h0 h1 h2) (by simpa only [Option.bind_eq_bind] using hr)
   | _ => simp at hr
  | array len e =>
   have fin : ∀ (B x s : Nat), n < len -> szOf P e = some s -> (Instr.indexAt t (.pointer (some ⟨B, x, none⟩)) (.int k n)).run P w = .ok (.pointer (some ⟨B, x + n.toNat * s, none⟩)) w := by
    intro B x s hlt hs
    rw [run_indexAt_array hu hs (by omega) hlt w, add_none]
   cases hx with
   | ptr hf =>
    simp only at hr
    split at hr
    ·rename_i hlt
     simp only [Option.map_eq_some_iff, addN_eq, mulN_eq] at hr
     obtain ⟨s, hs, hr⟩ := hr
     subst hr
     exact ⟨_, fin _ _ s hlt hs, by rw [Nat.add_assoc]; exact .ptr hf⟩
    ·cases hr
   | rp us h1 h2 =>
    simp only at hr
    split at hr
    ·rename_i hlt
     simp only [Option.map_eq_some_iff, addN_eq, mulN_eq] at hr
     obtain ⟨s, hs, hr⟩ := hr
     subst hr
     exact ⟨_, fin _ _ s hlt hs, by rw [Nat.add_assoc]; exact .rp us h1 h2⟩
    ·cases hr
   | _ => simp at hr
  | _ => simp at hr
theorem bytes_get (s : List UInt8) (i : Nat) : (⟨s.toArray⟩ : ByteArray)[i]? = s[i]? := by
 by_cases h : i < s.length
 ·rw [getElem?_pos _ _ (by show i < s.toArray.size; simpa using h), List.getElem?_eq_getElem h]; rfl
 ·rw [getElem?_neg _ _ (by show ¬ i < s.toArray.size; simpa using h), List.getElem?_eq_none (by omega)]
theorem flatMap_at {α : Type} {f : α -> List AV} {s : Nat} (hf : ∀ x, (f x).length = s) : ∀ {xs : List α} {i : Nat} {x : α} {j : Nat}, xs[i]? = some x -> j < s -> (xs.flatMap f)[i * s + j]? = (f x)[j]?
 | [], i, x, j, h, _ => by simp at h
 | y :: xs, 0, x, j, h, hj => by
  simp at h; subst h
  rw [List.flatMap_cons, List.getElem?_append_left (by rw [hf]; omega)]
  simp
 | y :: xs, i + 1, x, j, h, hj => by
  rw [List.flatMap_cons, List.getElem?_append_right (by rw [hf, Nat.add_mul]; omega), hf]
  have e : (i + 1) * s + j - s = i * s + j := by rw [Nat.add_mul]; omega
  rw [e]
  exact flatMap_at hf (by simpa using h) hj
theorem rd_seg {t : TypeId} {e cs : List AV} {o : Nat} {r : AV} (h : rd P t cs 0 = some r) (hs : ∀ j, j < cs.length -> e[o + j]? = cs[j]?) (hle : o + cs.length <= e.length) : rd P t e o = some r := by
 unfold rd at h ⊢
 cases hu : P.underlying t with
 | none => simp [hu] at h
 | some d =>
  simp only [hu, Option.bind_eq_bind, Option.bind_some] at h ⊢
  by_cases ha : isAggD d = true
  ·rw [if_pos ha] at h ⊢
   simp only [Option.bind_eq_some_iff] at h ⊢
   obtain ⟨n, hn, h⟩ := h
   refine ⟨n, hn, ?_⟩
   split at h
   ·rename_i hl
    injection h with h; subst h
    rw [Nat.zero_add] at hl
    rw [if_pos (by omega)]
    congr 2
    apply List.ext_getElem?
    intro j
    rw [List.getElem?_take, List.getElem?_take]
    by_cases hj : j < n
    ·rw [if_pos hj, if_pos hj, List.getElem?_drop, List.getElem?_drop, hs j (by omega), Nat.zero_add]
    ·rw [if_neg hj, if_neg hj]
   ·cases h
  ·rw [if_neg ha] at h ⊢
   have := hs 0 (List.getElem?_eq_some_iff.1 h).1
   rw [Nat.add_zero] at this
   rw [this]; exact h
theorem sound_index {t : TypeId} {x i r : AV} {u ui : Value} (hx : Rep Z φ x u) (hi : Rep Z φ i ui) (hr : aindex P t x i = some r) :
  ∃ v, (Instr.index t u ui).run P w = .ok v w /\ Rep Z φ r v := by
 unfold aindex at hr
 simp only [Option.bind_eq_bind, Option.bind_eq_some_iff] at hr
 obtain ⟨n, hn, hr⟩ := hr
 obtain ⟨k, rfl⟩ := asI_some hn hi
 by_cases hneg : n < 0
 ·rw [if_pos hneg] at hr; cases hr
 rw [if_neg hneg] at hr
 cases hu : P.underlying t with
 | none => simp [hu] at hr
 | some d =>
  rw [hu] at hr
  cases hx with
  | agg hl h =>
   cases d <;> simp [Option.bind_eq_some_iff] at hr
   rename_i len e
   obtain ⟨hlt, s, hs, hr⟩ := hr
   obtain ⟨v, hv, hrep⟩ := run_part (w := w) hr ⟨hl, h⟩
   refine ⟨v, ?_, hrep⟩
   unfold Instr.index
   refine run_bind' (x := (k, n)) (w' := w) rfl ?_
   refine run_bind' (run_underlying' hu w) ?_
   simp only
   rw [if_pos ⟨by omega, hlt⟩]
   exact run_bind' (run_szOf hs w) hv
  | ar h =>
   rename_i τ xs us
   cases d <;> simp [Option.bind_eq_some_iff] at hr
   rename_i len e
   obtain ⟨⟨hlt, hs⟩, x, hx, hr⟩ := hr
   have hseg := rd_seg (e := xs.flatMap τ.enc) (o := n.toNat * τ.sz) hr (fun j hj => by
    rw [Ty.enc_length] at hj
    exact flatMap_at τ.enc_length hx hj) (by
    rw [flatMap_len τ.enc_length, Ty.enc_length]
    have : (n.toNat + 1) * τ.sz <= xs.length * τ.sz := Nat.mul_le_mul_right _ (List.getElem?_eq_some_iff.1 hx).1
    rw [Nat.add_mul, Nat.one_mul] at this; exact this)
   obtain ⟨v, hv, hrep⟩ := run_part (w := w) hseg h.reps
   refine ⟨v, ?_, hrep⟩
   unfold Instr.index
   refine run_bind' (x := (k, n)) (w' := w) rfl ?_
   refine run_bind' (run_underlying' hu w) ?_
   simp only
   rw [if_pos ⟨by omega, hlt⟩]
   exact run_bind' (run_szOf hs w) hv
  | str s =>
   cases d <;> simp [Option.bind_eq_some_iff] at hr
   obtain ⟨b, hb, hr⟩ := hr
   subst hr
   refine ⟨_, ?_, .int _ _⟩
   unfold Instr.index
   refine run_bind' (x := (k, n)) (w' := w) rfl ?_
   refine run_bind' (run_underlying' hu w) ?_
   simp only
   rw [if_pos (by omega), bytes_get, hb]
   rfl
  | _ => simp at hr
end
end Go.Lom

/- More operations that leave memory alone: comparisons, arithmetic, slices, composites; they are sound. -/
namespace Go.Lom
open Go.RowKit
section
variable {P : Program} {base : Nat -> Prop} {w0 : Start} {Z : ZMap} {φ : PMap} {H : Heap} {nx : Nat} {w : World}
theorem toList_mk (s : List UInt8) : (⟨s.toArray⟩ : ByteArray).toList = s := by
 rw [ByteArray.toList_eq]
theorem size_mk (s : List UInt8) : (⟨s.toArray⟩ : ByteArray).size = s.length := by
 show s.toArray.size = _; simp
theorem run_eqFs (d : Nat) (IH : ∀ (t : TypeId) (x y : AV) (u v : Value) (b : Bool), Rep Z φ x u -> Rep Z φ y v -> aeqIn P d t x y = some b -> (Op.equalIn d t u v).run P w = .ok b w)
  {xs ys : List AV} {us vs : Array Value} (hx : Reps Z φ xs us) (hy : Reps Z φ ys vs) : ∀ (fs : List Field) (b : Bool), eqFs P (aeqIn P d) xs ys fs = some b -> (Op.eqFields d us vs fs).run P w = .ok b w
 | [], b, h => by simp [eqFs] at h; subst h; rfl
 | f :: fs, b, h => by
  simp only [eqFs] at h
  by_cases hn : f.name = "_"
  ·rw [if_pos hn] at h
   have := run_eqFs d IH hx hy fs b h
   simpa [Op.eqFields, hn] using this
  ·rw [if_neg hn] at h
   simp only [Option.bind_eq_bind, Option.bind_eq_some_iff] at h
   obtain ⟨a, ha, c, hc, r, hr, h⟩ := h
   obtain ⟨u, hu, ru⟩ := run_part (w := w) ha hx
   obtain ⟨v, hv, rv⟩ := run_part (w := w) hc hy
   have he := IH _ _ _ _ _ _ ru rv hr
   simp only [Op.eqFields, hn, ne_eq, not_false_eq_true, if_true]
   refine run_bind' hu (run_bind' hv (run_bind' he ?_))
   cases r
   ·simp at h; subst h; simp [go_sem]
   ·simp only [if_true] at h
    simpa using run_eqFs d IH hx hy fs b h
theorem run_eqIs (d : Nat) (IH : ∀ (t : TypeId) (x y : AV) (u v : Value) (b : Bool), Rep Z φ x u -> Rep Z φ y v -> aeqIn P d t x y = some b -> (Op.equalIn d t u v).run P w = .ok b w)
  {xs ys : List AV} {us vs : Array Value} (hx : Reps Z φ xs us) (hy : Reps Z φ ys vs) (e : TypeId) (n : Nat) : ∀ (is : List Nat) (b : Bool), eqIs P (aeqIn P d) e n xs ys is = some b -> (Op.eqItems d e n us vs is).run P w = .ok b w
 | [], b, h => by simp [eqIs] at h; subst h; rfl
 | i :: is, b, h => by
  simp only [eqIs] at h
  simp only [Option.bind_eq_bind, Option.bind_eq_some_iff] at h
  obtain ⟨a, ha, c, hc, r, hr, h⟩ := h
  obtain ⟨u, hu, ru⟩ := run_part (w := w) ha hx
  obtain ⟨v, hv, rv⟩ := run_part (w := w) hc hy
  have he := IH _ _ _ _ _ _ ru rv hr
  simp only [Op.eqItems]
  refine run_bind' hu (run_bind' hv (run_bind' he ?_))
  cases r
  ·simp at h; subst h; simp [go_sem]
  ·simp only [if_true] at h
   simpa using run_eqIs d IH hx hy e n is b h
theorem szOf_info {t n : Nat} (h : szOf P t = some n) : ∃ i, P.info? t = some i /\ P.cellsOf t = n := by
 unfold szOf at h
 cases hi : P.info? t with
 | none => simp [hi] at h
 | some i => exact ⟨i, rfl, by simpa [Program.cellsOf, hi] using h⟩
theorem intsOf_eq {k : IntKind} : ∀ {cs : List AV} {xs : List Int}, intsOf k cs = some xs -> cs = xs.map (AV.int k)
 | [], xs, h => by simp only [intsOf, Option.some.injEq] at h; subst h; rfl
 | c :: cs, xs, h => by
  unfold intsOf at h
  split at h
  ·rename_i heq; cases heq
  ·rename_i k' n cs' heq
   injection heq with h1 h2
   subst h1 h2
   split at h
   ·rename_i hk
    simp only [Option.map_eq_some_iff] at h
    obtain ⟨ys, hy, rfl⟩ := h
    rw [intsOf_eq hy, hk]; rfl
   ·cases h
  ·cases h
theorem arrI_rep {k : IntKind} {x : AV} {xs : List Int} {u : Value} (h : arrI k x = some xs) (hx : Rep Z φ x u) : ∃ us, u = .agg us /\ Reps Z φ (xs.map (AV.int k)) us := by
 unfold arrI at h
 split at h
 ·rename_i k' ys
  split at h
  ·rename_i hk
   injection h with h; subst h hk
   cases hx with
   | ar h =>
    rename_i us
    have e : (ys.flatMap (Ty.enc (.i k'))) = ys.map (AV.int k') := by
     clear h
     induction ys with
     | nil => rfl
     | cons a l ih => rw [List.flatMap_cons, ih]; rfl
    rw [e] at h
    exact ⟨us, rfl, h.reps⟩
  ·cases h
 ·rename_i cs
  cases hx with
  | agg hl hr =>
   rename_i us
   have := intsOf_eq h
   subst this
   exact ⟨us, rfl, hl, hr⟩
 ·cases h
theorem eqIs_ints {d : Nat} {e : TypeId} {k : IntKind} (hu : P.underlying e = some (.int k)) {xs ys : List Int} : ∀ (m i : Nat), i + m = xs.length -> xs.length = ys.length -> eqIs P (aeqIn P (d + 1)) e 1 (xs.map (AV.int k)) (ys.map (AV.int k)) (List.range' i m) = some (decide (xs.drop i = ys.drop i))
 | 0, i, h, hl => by
  simp only [List.range'_zero, eqIs]
  rw [List.drop_of_length_le (by omega), List.drop_of_length_le (by omega)]; simp
 | m + 1, i, h, hl => by
  have h1 : i < xs.length := by omega
  have h2 : i < ys.length := by omega
  rw [List.range'_succ, eqIs]
  have r1 : rd P e (xs.map (AV.int k)) (i * 1) = some (.int k xs[i]) := by simp [rd, hu, isAggD, h1]
  have r2 : rd P e (ys.map (AV.int k)) (i * 1) = some (.int k ys[i]) := by simp [rd, hu, isAggD, h2]
  have r3 : aeqIn P (d + 1) e (.int k xs[i]) (.int k ys[i]) = some (xs[i] == ys[i]) := by simp [aeqIn, hu]
  rw [r1, r2]
  simp only [Option.bind_eq_bind, Option.bind_some, r3]
  rw [eqIs_ints hu m (i + 1) (by omega) hl, List.drop_eq_getElem_cons h1, List.drop_eq_getElem_cons h2]
  generalize xs.drop (i + 1) = p
  generalize ys.drop (i + 1) = q
  generalize xs[i] = a
  generalize ys[i] = c
  by_cases he : a = c
  ·simp [he]
  ·simp [he]
theorem sound_arEq {d len : Nat} {t e : TypeId} {x y : AV} {u v : Value} {b : Bool} (IH : ∀ (t : TypeId) (x y : AV) (u v : Value) (b : Bool), Rep Z φ x u -> Rep Z φ y v -> aeqIn P d t x y = some b -> (Op.equalIn d t u v).run P w = .ok b w)
  (hu : P.underlying t = some (.array len e)) (hx : Rep Z φ x u) (hy : Rep Z φ y v) (h : arEq P len e d x y = some b) : (Op.equalIn (d + 1) t u v).run P w = .ok b w := by
 unfold arEq at h
 split at h
 rotate_left
 ·cases h
 rename_i d k he
 split at h
 rotate_left
 ·cases h
 rename_i xs ys h1 h2
 split at h
 rotate_left
 ·cases h
 rename_i hc
 obtain ⟨hn, hlx, hly⟩ := hc
 injection h with h; subst h
 obtain ⟨us, rfl, r1⟩ := arrI_rep h1 hx
 obtain ⟨vs, rfl, r2⟩ := arrI_rep h2 hy
 obtain ⟨i, hi, hc⟩ := szOf_info hn
 rw [run_equalIn_array w (d + 1) _ _ hu hi, hc]
 have := eqIs_ints (d := d) he (xs := xs) (ys := ys) len 0 (by omega) (by omega)
 rw [<- List.range_eq_range', List.drop_zero, List.drop_zero] at this
 exact run_eqIs (d + 1) IH r1 r2 e 1 _ _ this
set_option maxHeartbeats 2000000 in
theorem sound_eqIn : ∀ (d : Nat) (t : TypeId) (x y : AV) (u v : Value) (b : Bool), Rep Z φ x u -> Rep Z φ y v -> aeqIn P d t x y = some b -> (Op.equalIn d t u v).run P w = .ok b w
 | 0, _, _, _, _, _, _, _, _, h => by simp [aeqIn] at h
 | d + 1, t, x, y, u, v, b, hx, hy, h => by
  have IH := fun t x y u v b => sound_eqIn d t x y u v b
  unfold aeqIn at h
  split at h
  ·rename_i hu; cases hx; cases hy; injection h with h; subst h; simp [Op.equalIn, run_underlying' hu, Sem.run_bind, go_sem]
  ·rename_i hu; cases hx; cases hy
   split at h
   ·rename_i hk; subst hk; injection h with h; subst h; simp [Op.equalIn, run_underlying' hu, Sem.run_bind, go_sem]
   ·cases h
  ·rename_i hu; cases hx; cases hy; injection h with h; subst h; simp [Op.equalIn, run_underlying' hu, Sem.run_bind, go_sem, beq_toListBytes]
  all_goals try (rename_i hu; cases hx; cases hy; injection h with h; subst h; simp [Op.equalIn, run_underlying' hu, Sem.run_bind, go_sem]; done)
  ·rename_i fs xs ys hu
   cases hx with
   | agg hl1 h1 =>
   cases hy with
   | agg hl2 h2 =>
   split at h
   ·cases h
   ·rename_i hst
    have hst' : P.stoodInHeld t = false := by simpa using hst
    rw [run_equalIn_struct w d t _ _ (by unfold Program.fieldsOf; rw [hu]) hst']
    have e1 : P.fieldsOf t = fs := by unfold Program.fieldsOf; rw [hu]
    rw [e1]
    exact run_eqFs d IH ⟨hl1, h1⟩ ⟨hl2, h2⟩ fs.toList b h
  ·rename_i len e xs ys hu
   cases hx with
   | agg hl1 h1 =>
   cases hy with
   | agg hl2 h2 =>
   simp only [Option.bind_eq_some_iff] at h
   obtain ⟨n, hn, h⟩ := h
   obtain ⟨i, hi, hc⟩ := szOf_info hn
   rw [run_equalIn_array w d _ _ hu hi, hc]
   exact run_eqIs d IH ⟨hl1, h1⟩ ⟨hl2, h2⟩ e n _ b h
  ·rename_i hu _; exact sound_arEq IH hu hx hy h
  ·cases h
end
end Go.Lom

/- Arithmetic, conversions, slices, composites: sound. -/
namespace Go.Lom
open Go.RowKit
section
variable {P : Program} {base : Nat -> Prop} {w0 : Start} {Z : ZMap} {φ : PMap} {H : Heap} {nx : Nat} {w : World}
theorem run_binI {op : BinOp} {k : IntKind} {a b : Int} {r : AV} (t : TypeId) (h : binI op k a b = some r) (h1 : op ≠ .shl) (h2 : op ≠ .shr) :
  ∃ v, (Go.binOp op t (.int k a) (.int k b)).run P w = .ok v w /\ Rep Z φ r v := by
 cases op <;> simp [binI, bitI, cmpI] at h h1 h2 <;> (first | subst h | (obtain ⟨h0, h⟩ := h; subst h))
 all_goals (refine ⟨_, ?_, by constructor⟩; simp [Go.binOp, Op.intArith, Op.intDiv, Op.intBits, Op.intCmp, *]; try rfl)
theorem run_binS {op : BinOp} {x y : List UInt8} {r : AV} (t : TypeId) (h : binS op x y = some r) :
  ∃ v, (Go.binOp op t (.string ⟨x.toArray⟩) (.string ⟨y.toArray⟩)).run P w = .ok v w /\ Rep Z φ r v := by
 cases op <;> simp [binS] at h <;> (first | subst h | (obtain ⟨h0, h⟩ := h; subst h))
 case add =>
  refine ⟨.string ⟨(x ++ y).toArray⟩, ?_, .str _⟩
  have h1 : ¬ (((⟨x.toArray⟩ : ByteArray).size + (⟨y.toArray⟩ : ByteArray).size : Nat) : Int) > IntKind.i64.max := by rw [size_mk, size_mk]; simpa using h0
  simp only [Go.binOp, Op.stringOp]
  rw [if_neg h1]
  have : (⟨x.toArray⟩ : ByteArray) ++ ⟨y.toArray⟩ = ⟨(x ++ y).toArray⟩ := by
   apply ByteArray.ext
   simp
  rw [this]; rfl
 all_goals (refine ⟨_, ?_, by constructor⟩; simp only [Go.binOp, Op.stringOp, toList_mk]; first | rfl | (rw [Bool.not_or]; rfl))
theorem eqGuard_int (op : BinOp) (t : TypeId) (ox oy : Operand) (k k' : IntKind) (a b : Int) : (eqGuard op t ox oy (.int k a) (.int k' b)).run P w = .ok () w := by
 unfold eqGuard; cases op <;> rfl
theorem eqGuard_str (op : BinOp) (t : TypeId) (ox oy : Operand) (a b : ByteArray) : (eqGuard op t ox oy (.string a) (.string b)).run P w = .ok () w := by
 unfold eqGuard; cases op <;> rfl
theorem run_eqGuard {op : BinOp} {t : TypeId} {ox oy : Operand} {x y : AV} {u v : Value} (hx : Rep Z φ x u) (hy : Rep Z φ y v) (h : abin.guardOk P t ox oy x y = true) (hop : op = .eql \/ op = .neq) :
  (eqGuard op t ox oy u v).run P w = .ok () w := by
 unfold abin.guardOk at h
 split at h
 ·cases hx; cases hy
  rcases hop with rfl | rfl <;> (unfold eqGuard; cases ox <;> cases oy <;> first | rfl | (simp [isNilConst] at h; done))
 ·cases hx; cases hy
  simp only [Bool.not_eq_true'] at h
  rcases hop with rfl | rfl <;> (unfold eqGuard; simp [go_sem, h])
 ·cases hx; cases hy
  simp only [Bool.not_eq_true'] at h
  rcases hop with rfl | rfl <;> (unfold eqGuard; simp [go_sem, h])
 ·cases hx; cases hy
  simp only [Bool.not_eq_true'] at h
  rcases hop with rfl | rfl <;> (unfold eqGuard; simp [go_sem, h])
 ·cases hx; cases hy
  simp only [Bool.not_eq_true'] at h
  rcases hop with rfl | rfl <;> (unfold eqGuard; simp [go_sem, h])
 ·cases h
 ·cases h
 ·cases h
 ·cases h
 ·rename_i q00 q0 q1 q2 q3 q4 q5 q6 q7
  rcases hop with rfl | rfl <;> (unfold eqGuard; cases hx <;> cases hy <;> first | rfl | exact (q0 _ _ rfl).elim | exact (q00 _ _ rfl).elim | exact (q1 _ _ rfl).elim | exact (q2 _ _ rfl).elim | exact (q7 _ _ rfl).elim | exact (q6 _ _ rfl).elim | exact (q5 _ _ rfl).elim | exact (q4 _ _ rfl).elim | exact (q3 _ _ rfl).elim | exact (q4 rfl).elim | exact (q5 rfl).elim | exact (q6 rfl).elim | exact (q7 rfl).elim | (simp_all; done))
theorem sound_bin {op : BinOp} {t : TypeId} {ox oy : Operand} {x y r : AV} {u v : Value} (hx : Rep Z φ x u) (hy : Rep Z φ y v) (h : abin P op t ox oy x y = some r) :
  ∃ q, (do eqGuard op t ox oy u v; Go.binOp op t u v : Sem Value).run P w = .ok q w /\ Rep Z φ r q := by
 have guardInt : ∀ (k k' : IntKind) (a b : Int), (eqGuard op t ox oy (.int k a) (.int k' b)).run P w = .ok () w := fun k k' a b => eqGuard_int ..
 have guardStr : ∀ (a b : ByteArray), (eqGuard op t ox oy (.string a) (.string b)).run P w = .ok () w := fun a b => eqGuard_str ..
 unfold abin at h
 split at h
 ·cases hx; cases hy
  split at h
  ·cases h
  ·rename_i hb
   injection h with h; subst h
   refine ⟨_, run_bind' (guardInt _ _ _ _) ?_, by constructor⟩
   simp [Go.binOp, Op.shift, hb]
 ·cases hx; cases hy
  split at h
  ·cases h
  ·rename_i hb
   injection h with h; subst h
   refine ⟨_, run_bind' (guardInt _ _ _ _) ?_, by constructor⟩
   simp [Go.binOp, Op.shift, hb]
 ·rename_i h1 h2
  cases hx; cases hy
  split at h
  ·rename_i hk; subst hk
   obtain ⟨q, hq, hr⟩ := run_binI (P := P) (w := w) (Z := Z) (φ := φ) t h (fun e => h1 e) (fun e => h2 e)
   exact ⟨q, run_bind' (guardInt _ _ _ _) hq, hr⟩
  ·cases h
 ·cases hx; cases hy
  obtain ⟨q, hq, hr⟩ := run_binS (P := P) (w := w) (Z := Z) (φ := φ) t h
  exact ⟨q, run_bind' (guardStr _ _) hq, hr⟩
 ·rename_i n1 n2 n3
  split at h
  ·rename_i hg
   simp only [Option.map_eq_some_iff] at h
   obtain ⟨b, hb, rfl⟩ := h
   refine ⟨.bool b, run_bind' (run_eqGuard hx hy hg (by simp)) ?_, .bool _⟩
   have he : (Op.equal t u v).run P w = .ok b w := sound_eqIn 10000 t _ _ _ _ _ hx hy hb
   have : Go.binOp .eql t u v = (do pure (.bool (<- Op.equal t u v)) : Sem Value) := by
    cases hx <;> cases hy <;> first | rfl | exact (n2 _ _ _ _ rfl rfl).elim | exact (n3 _ _ rfl rfl).elim | (simp_all [abin.guardOk]; done)
   rw [this]
   exact run_bind' he rfl
  ·cases h
 ·rename_i n1 n2 n3
  split at h
  ·rename_i hg
   simp only [Option.map_eq_some_iff] at h
   obtain ⟨b, hb, rfl⟩ := h
   refine ⟨.bool (!b), run_bind' (run_eqGuard hx hy hg (by simp)) ?_, .bool _⟩
   have he : (Op.equal t u v).run P w = .ok b w := sound_eqIn 10000 t _ _ _ _ _ hx hy hb
   have : Go.binOp .neq t u v = (do pure (.bool (!(<- Op.equal t u v))) : Sem Value) := by
    cases hx <;> cases hy <;> first | rfl | exact (n2 _ _ _ _ rfl rfl).elim | exact (n3 _ _ rfl rfl).elim | (simp_all [abin.guardOk]; done)
   rw [this]
   exact run_bind' he rfl
  ·cases h
 ·cases h
theorem sound_un {op : UnOp} {x r : AV} {u : Value} (hx : Rep Z φ x u) (h : aun op x = some r) : ∃ q, (Op.unary op u).run P w = .ok q w /\ Rep Z φ r q := by
 unfold aun at h
 split at h
 ·cases hx; injection h with h; subst h; exact ⟨_, rfl, .int _ _⟩
 ·cases hx
  simp only [bitI, Option.map_some, Option.some.injEq] at h; subst h
  exact ⟨_, rfl, .int _ _⟩
 ·cases hx; injection h with h; subst h; exact ⟨_, rfl, .bool _⟩
 ·cases h
end
end Go.Lom

/- Slices, composites, conversions, maps read: sound; and all quiet operations together. -/
namespace Go.Lom
open Go.RowKit
section
variable {P : Program} {base : Nat -> Prop} {w0 : Start} {Z : ZMap} {φ : PMap} {H : Heap} {nx : Nat} {w : World}
def SliceAt (Z : ZMap) (φ : PMap) (w : World) (a : Addr) (es : List (List AV)) : Prop :=
 es = [] \/ ∃ B off s, a = ⟨B, off, none⟩ /\ ∀ (i : Nat) (e : List AV), es[i]? = some e -> e.length = s /\ e.all oneC = true /\ CellsAt Z φ w B (off + i * s) e
theorem HRel.elems (h : HRel base w0 Z φ H nx w) {x : AV} {u : Value} {es : List (List AV)} (hx : Rep Z φ x u) (he : elems H x = some es) :
  (u = .slice none 0 0 /\ es = []) \/ ∃ a c, u = .slice (some a) es.length c /\ es.length <= c /\ SliceAt Z φ w a es := by
 unfold Lom.elems at he
 cases hx with
 | nils => injection he with he; subst he; exact .inl ⟨rfl, rfl⟩
 | emp a => injection he with he; subst he; exact .inr ⟨a, 0, rfl, Nat.le_refl _, .inl rfl⟩
 | rs0 => injection he with he; subst he; exact .inl ⟨rfl, rfl⟩
 | rl hx =>
  rename_i τ ys
  injection he with he
  rw [he] at hx
  cases hx with
  | rs0 => exact .inl ⟨rfl, rfl⟩
  | rs us hn hc ha h0 h1 h2 =>
  subst hn
  refine .inr ⟨_, _, rfl, hc, ?_⟩
  rcases ha with rfl | hz
  ·exact .inr ⟨_, _, _, rfl, fun i e hi => ⟨(h0 i e hi).1, (h0 i e hi).2, fun j v hj => ⟨us i j, h.zcellAt (h1 i e j v hi hj), h2 i e j v hi hj⟩⟩⟩
  ·exact .inl (List.eq_nil_of_length_eq_zero hz)
 | sl0n hc =>
  simp only [Option.bind_eq_bind, Option.bind_eq_some_iff] at he
  obtain ⟨blk, hb, ⟨s2, fs⟩, hrow, he⟩ := he
  split at he
  ·injection he with he; subst he; exact .inl ⟨rfl, by simp⟩
  ·cases he
 | sl0s hc a =>
  simp only [Option.bind_eq_bind, Option.bind_eq_some_iff] at he
  obtain ⟨blk, hb, ⟨s2, fs⟩, hrow, he⟩ := he
  split at he
  ·injection he with he
   have : es = [] := by rw [<- he]; simp
   subst this
   exact .inr ⟨a, 0, rfl, Nat.le_refl _, .inl rfl⟩
  ·cases he
 | rs us hn hc ha h0 h1 h2 =>
  injection he with he; subst he
  subst hn
  refine .inr ⟨_, _, rfl, hc, ?_⟩
  rcases ha with rfl | hz
  ·exact .inr ⟨_, _, _, rfl, fun i e hi => ⟨(h0 i e hi).1, (h0 i e hi).2, fun j v hj => ⟨us i j, h.zcellAt (h1 i e j v hi hj), h2 i e j v hi hj⟩⟩⟩
  ·exact .inl (List.eq_nil_of_length_eq_zero hz)
 | sl hf hls hc hl hm ha =>
  rename_i b s off len c l cap a
  simp only [Option.bind_eq_bind, Option.bind_eq_some_iff] at he
  obtain ⟨blk, hb, ⟨s2, fs⟩, hrow, he⟩ := he
  simp only at he
  split at he
  ·rename_i hle
   have hle : off + len <= fs.length := hle
   have he : (fs.drop off).take len = es := by injection he
   subst he
   have hlen : ((fs.drop off).take len).length = len := by simp; omega
   rw [hlen]
   refine .inr ⟨a, c, rfl, hl, ?_⟩
   rcases ha with rfl | hz
   ·refine .inr ⟨_, _, s, rfl, fun i e hi => ?_⟩
    have hi2 : i < len := by have := (List.getElem?_eq_some_iff.1 hi).1; omega
    rw [List.getElem?_take, if_pos hi2, List.getElem?_drop] at hi
    obtain ⟨e1, e2, e3, hca⟩ := h.cellsAt' hb hrow hi hf
    have e4 : s2 = s := by rw [<- e1, hls]
    subst e4
    exact ⟨e2, e3, by rw [Nat.add_assoc, <- Nat.add_mul]; exact hca⟩
   ·left
    have : len = 0 := by omega
    subst this; simp
  ·cases he
 | _ => simp at he
theorem oneCell_of {v : AV} {u : Value} (h : Rep Z φ v u) (ho : oneC v = true) : u.oneCell' = true := by
 cases h <;> first | rfl | (simp [oneC] at ho; done)
def Flat (Z : ZMap) (φ : PMap) (s : Nat) (es : List (List AV)) (us : List Value) : Prop :=
 us.length = es.length * s /\ (∀ u ∈ us, u.oneCell' = true) /\ ∀ (i : Nat) (e : List AV), es[i]? = some e -> e.length = s /\ ∀ (j : Nat) (v : AV), e[j]? = some v -> ∃ u, us[i * s + j]? = some u /\ Rep Z φ v u
theorem flat_nil (s : Nat) : Flat Z φ s [] [] := ⟨by simp, fun u hu => by simp at hu, fun i e h => by simp at h⟩
theorem SliceAt.flat {a : Addr} {es : List (List AV)} (h : SliceAt Z φ w a es) {s : Nat} (hs : ∀ e ∈ es, e.length = s) :
  ∃ us, Flat Z φ s es us /\ ∀ (j : Nat) (u : Value), us[j]? = some u -> w.cell? (a.add j) = some u := by
 rcases h with rfl | ⟨B, off, s', rfl, h⟩
 ·exact ⟨[], flat_nil s, fun j u hj => by simp at hj⟩
 ·by_cases hne : es = []
  ·subst hne; exact ⟨[], flat_nil s, fun j u hj => by simp at hj⟩
  have hss : s' = s := by
   cases es with
   | nil => exact absurd rfl hne
   | cons e es => rw [<- (h 0 e rfl).1]; exact hs e (by simp)
  subst hss
  have hex : ∀ k, k < es.length * s' -> ∃ u, w.cell? ⟨B, off + k, none⟩ = some u /\ u.oneCell' = true /\ ∀ e v, es[k / s']? = some e -> e[k % s']? = some v -> Rep Z φ v u := fun k hk => by
   have hs0 : 0 < s' := by
    rcases Nat.eq_zero_or_pos s' with h0 | h0
    ·subst h0; omega
    ·exact h0
   have hi : k / s' < es.length := Nat.div_lt_of_lt_mul (by rw [Nat.mul_comm]; exact hk)
   have hm : k % s' < s' := Nat.mod_lt _ hs0
   have he : es[k / s']? = some es[k / s'] := List.getElem?_eq_getElem hi
   obtain ⟨hl, hone, hc⟩ := h _ _ he
   have hj : (es[k / s'])[k % s']? = some ((es[k / s'])[k % s' ]'(by omega)) := List.getElem?_eq_getElem (by omega)
   obtain ⟨u, hu, hr⟩ := hc _ _ hj
   have e1 : off + k / s' * s' + k % s' = off + k := by have := Nat.div_add_mod k s'; rw [Nat.mul_comm] at this; omega
   rw [e1] at hu
   exact ⟨u, hu, oneCell_of hr (List.all_eq_true.1 hone _ (List.mem_of_getElem? hj)), fun e v h1 h2 => by rw [he] at h1; injection h1 with h1; subst h1; rw [hj] at h2; injection h2 with h2; subst h2; exact hr⟩
  have hF : ∃ f : Nat -> Value, ∀ k, k < es.length * s' -> w.cell? ⟨B, off + k, none⟩ = some (f k) /\ (f k).oneCell' = true /\ ∀ e v, es[k / s']? = some e -> e[k % s']? = some v -> Rep Z φ v (f k) :=
   ⟨fun k => if hk : k < es.length * s' then Classical.choose (hex k hk) else Go.undef, fun k hk => by simp only [hk, dif_pos]; exact Classical.choose_spec (hex k hk)⟩
  obtain ⟨f, hf⟩ := hF
  refine ⟨(List.range (es.length * s')).map f, ⟨by simp, fun u hu => ?_, fun i e hi => ⟨(h i e hi).1, fun j v hj => ?_⟩⟩, fun j u hj => ?_⟩
  ·simp at hu; obtain ⟨k, hk, rfl⟩ := hu; exact (hf k hk).2.1
  ·have hi' := (List.getElem?_eq_some_iff.1 hi).1
   have hj' : j < s' := by have := (List.getElem?_eq_some_iff.1 hj).1; have := (h i e hi).1; omega
   have hk : i * s' + j < es.length * s' := by
    have : (i + 1) * s' <= es.length * s' := Nat.mul_le_mul_right _ hi'
    rw [Nat.add_mul] at this; omega
   refine ⟨f (i * s' + j), by simp [hk], (hf _ hk).2.2 e v ?_ ?_⟩
   ·rw [Nat.mul_comm, Nat.mul_add_div (by omega), Nat.div_eq_of_lt hj']; simpa using hi
   ·rw [Nat.mul_comm, Nat.mul_add_mod, Nat.mod_eq_of_lt hj']; exact hj
  ·have hj' : j < es.length * s' := by have := (List.getElem?_eq_some_iff.1 hj).1; simpa using this
   simp [hj'] at hj
   subst hj
   rw [add_none]
   exact (hf j hj').1
theorem mapM_bytes : ∀ (es : List (List AV)) (bs : List UInt8), es.mapM byteOf = some bs -> ∃ ns : List Int, es = ns.map (fun n => [.int .u8 n]) /\ bs = ns.map fun n => UInt8.ofNat n.toNat
 | [], bs, h => by simp at h; subst h; exact ⟨[], rfl, rfl⟩
 | e :: es, bs, h => by
  rw [List.mapM_cons] at h
  simp only [Option.bind_eq_bind, Option.bind_eq_some_iff, Option.pure_def, Option.some.injEq] at h
  obtain ⟨b, hb, bs', h1, h2⟩ := h
  obtain ⟨ns, rfl, rfl⟩ := mapM_bytes es bs' h1
  unfold byteOf at hb
  split at hb
  ·rename_i n; injection hb with hb; subst hb
   exact ⟨n :: ns, rfl, h2.symm⟩
  ·cases hb
theorem foldl_push (ns : List Int) (s : List UInt8) : ns.foldl (fun (r : ByteArray) n => r.push (UInt8.ofNat n.toNat)) ⟨s.toArray⟩ = ⟨(s ++ ns.map fun n => UInt8.ofNat n.toNat).toArray⟩ := by
 induction ns generalizing s with
 | nil => simp
 | cons n ns ih =>
  simp only [List.foldl_cons, List.map_cons]
  have : (⟨s.toArray⟩ : ByteArray).push (UInt8.ofNat n.toNat) = ⟨(s ++ [UInt8.ofNat n.toNat]).toArray⟩ := by
   apply ByteArray.ext; simp [ByteArray.push]
  rw [this, ih]; simp
theorem flat_ints {es : List (List AV)} {us : List Value} {ns : List Int} (h : Flat Z φ 1 es us) (he : es = ns.map fun n => [.int .u8 n]) : us = ns.map (Value.int .u8) := by
 subst he
 obtain ⟨h1, _, h2⟩ := h
 simp only [List.length_map, Nat.mul_one] at h1
 apply List.ext_getElem?
 intro i
 by_cases hi : i < ns.length
 ·have := (h2 i [.int .u8 ns[i]] (by simp [hi])).2 0 (.int .u8 ns[i]) rfl
  obtain ⟨u, hu, hr⟩ := this
  cases hr
  simp only [Nat.mul_one, Nat.add_zero] at hu
  rw [hu]; simp [hi]
 ·rw [List.getElem?_eq_none (by omega), List.getElem?_eq_none (by simp; omega)]
theorem sound_conv (h : HRel base w0 Z φ H nx w) {src dst : TypeId} {x r : AV} {u : Value} (hx : Rep Z φ x u) (hr : aconv P src dst x H = some r) :
  ∃ q, (convert src dst u).run P w = .ok q w /\ Rep Z φ r q := by
 unfold aconv at hr
 split at hr
 ·rename_i d1 k k2 n h1 h2
  cases hx; injection hr with hr; subst hr
  refine ⟨_, ?_, .int _ _⟩
  simp [convert, Sem.run_bind, run_underlying' h1, run_underlying' h2, Conv.intToInt, go_sem]
 ·rename_i d1 s h1 h2
  cases hx; injection hr with hr; subst hr
  refine ⟨_, ?_, .str _⟩
  simp [convert, Sem.run_bind, run_underlying' h1, run_underlying' h2, go_sem]
 ·rename_i g1 h1 h2 hns1
  split at hr
  ·rename_i h3
   simp only [Option.bind_eq_bind, Option.bind_eq_some_iff, Option.some.injEq] at hr
   obtain ⟨es, hes, bs, hbs, rfl⟩ := hr
   obtain ⟨ns, hns, rfl⟩ := mapM_bytes es bs hbs
   refine ⟨_, ?_, .str _⟩
   have hc : ∀ (ao : Option Addr) (n c : Nat), u = .slice ao n c -> (convert src dst u).run P w = (Conv.bytesToString u).run P w := by
    intro ao n c hu
    subst hu
    simp [convert, Sem.run_bind, run_underlying' h1, run_underlying' h2, run_underlying' h3, go_sem]
   rcases h.elems hx hes with ⟨rfl, rfl⟩ | ⟨a, c, rfl, _, hsl⟩
   ·rw [hc _ _ _ rfl]
    have : ns = [] := by cases ns with | nil => rfl | cons => simp at hns
    subst this
    rfl
   ·rw [hc _ _ _ rfl]
    obtain ⟨us, hfl, hcell⟩ := hsl.flat (s := 1) (fun e he => by subst hns; simp at he; obtain ⟨n, _, rfl⟩ := he; rfl)
    have hus := flat_ints hfl hns
    subst hus
    have hlen : (ns.map (Value.int .u8)).length = es.length := by subst hns; simp
    have hl := run_loadCells_list (P := P) w a (ns.map (Value.int .u8)) hcell
    rw [hlen] at hl
    rw [run_bytesToString w a _ c ns hl]
    have := foldl_push ns []
    simp only [List.nil_append] at this
    rw [<- this]; rfl
  ·cases hr
 ·cases hr
theorem sound_mkIface {t : TypeId} {x r : AV} {u : Value} (hx : Rep Z φ x u) (hr : amkIface P t x = some r) : ∃ q, (Instr.makeInterface t u).run P w = .ok q w /\ Rep Z φ r q := by
 unfold amkIface at hr
 split at hr
 ·cases hr
 ·cases hr
 ·rename_i d h1 h2
  injection hr with hr; subst hr
  refine ⟨.iface t u, ?_, .iface hx⟩
  unfold Instr.makeInterface
  refine run_bind' (run_underlying' h2 w) ?_
  cases d <;> first | rfl | exact absurd rfl (h1 _)
theorem run_zeroValue {t : TypeId} {z : AV} (h : zeroOf P t = some z) (w : World) : ∃ u, (zeroValue t).run P w = .ok u w /\ Rep Z φ z u := by
 unfold zeroOf at h
 simp only [Option.map_eq_some_iff, Option.bind_eq_some_iff] at h
 obtain ⟨v, ⟨i, hi, hz⟩, rfl⟩ := h
 refine ⟨v, ?_, rep_lift _ _ _⟩
 simp [zeroValue, typeInfo, hi, hz, go_sem]
theorem rep_pair {a b : AV} {u v : Value} (h1 : Rep Z φ a u) (h2 : Rep Z φ b v) : Rep Z φ (.tup [a, b]) (.tuple #[u, v]) := by
 refine .tup rfl fun i x y hx hy => ?_
 match i with
 | 0 => simp at hx hy; subst hx hy; exact h1
 | 1 => simp at hx hy; subst hx hy; exact h2
 | i + 2 => simp at hx
theorem sound_typeAssert {xt t : TypeId} {x r : AV} {u : Value} {ok : Bool} (hx : Rep Z φ x u) (hr : atypeAssert P x t ok = some r) :
  ∃ q, (Instr.typeAssert u xt t ok).run P w = .ok q w /\ Rep Z φ r q := by
 unfold atypeAssert at hr
 have fails : ∀ d, P.underlying t = some d -> (∀ ms, d ≠ .interface ms) -> ∀ (st dy : Option TypeId), (if ok = true then (zeroOf P t).map fun z => AV.tup [z, .bool false] else none) = some r ->
   ∃ q, ((if ok then do pure (Value.tuple #[<- zeroValue t, .bool false]) else runtimePanic (.typeAssertion st dy t "")) : Sem Value).run P w = .ok q w /\ Rep Z φ r q := by
  intro d hd hni st dy hh
  cases ok
  ·simp at hh
  ·simp only [if_true, Option.map_eq_some_iff] at hh
   obtain ⟨z, hz, rfl⟩ := hh
   obtain ⟨v, hv, hrep⟩ := run_zeroValue (Z := Z) (φ := φ) hz w
   exact ⟨.tuple #[v, .bool false], run_bind' hv rfl, rep_pair hrep (.bool _)⟩
 split at hr
 ·cases hr
 ·cases hr
 ·rename_i d h1 h2
  cases hx
  obtain ⟨q, hq, hrep⟩ := fails d h2 (fun ms e => by subst e; exact h1 _ rfl) (some xt) none hr
  refine ⟨q, ?_, hrep⟩
  unfold Instr.typeAssert
  refine run_bind' (run_underlying' h2 w) ?_
  cases d <;> first | exact hq | exact absurd rfl (h1 _)
 ·rename_i d t' v h1 h2
  cases hx with
  | iface hv =>
  rename_i uv
  split at hr
  ·rename_i ht; subst ht
   injection hr with hr; subst hr
   refine ⟨if ok then .tuple #[uv, .bool true] else uv, ?_, by
    cases ok with
    | false => exact hv
    | true => exact rep_pair hv (.bool _)⟩
   unfold Instr.typeAssert
   refine run_bind' (run_underlying' h2 w) ?_
   cases d <;> first | (simp only [if_true]; rfl) | exact absurd rfl (h1 _)
  ·rename_i hne
   obtain ⟨q, hq, hrep⟩ := fails d h2 (fun ms e => by subst e; exact h1 _ rfl) (some xt) (some t') hr
   refine ⟨q, ?_, hrep⟩
   unfold Instr.typeAssert
   refine run_bind' (run_underlying' h2 w) ?_
   cases d <;> first | (simp only [if_neg hne]; exact hq) | exact absurd rfl (h1 _)
 ·cases hr
end
end Go.Lom

/- Slices, composites, maps read: sound; and all quiet operations together. -/
namespace Go.Lom
open Go.RowKit
section
variable {P : Program} {base : Nat -> Prop} {w0 : Start} {Z : ZMap} {φ : PMap} {H : Heap} {nx : Nat} {w : World}
def RepO (Z : ZMap) (φ : PMap) : Option AV -> Option Value -> Prop
 | none, none => True
 | some x, some u => Rep Z φ x u
 | _, _ => False
theorem run_bound {x : AV} {u : Value} {n most d : Nat} {code : BoundsCode} (h : bnd (some x) d most = some n) (hx : Rep Z φ x u) {most' : Nat} (hm : most <= most') (w : World) :
  (Instr.sliceBound u most' code).run P w = .ok n w := by
 unfold bnd at h
 simp only [Option.bind_eq_bind, Option.bind_eq_some_iff] at h
 obtain ⟨k, hk, h⟩ := h
 obtain ⟨kd, rfl⟩ := asI_some hk hx
 split at h
 ·rename_i hh
  injection h with h; subst h
  unfold Instr.sliceBound
  refine run_bind' (x := (kd, k)) (w' := w) rfl ?_
  simp only
  rw [if_pos ⟨hh.1, by omega⟩]; rfl
 ·cases h
theorem bnd_le {x : AV} {n most d : Nat} (h : bnd (some x) d most = some n) : n <= most := by
 unfold bnd at h
 simp only [Option.bind_eq_bind, Option.bind_eq_some_iff] at h
 obtain ⟨k, hk, h⟩ := h
 split at h
 ·rename_i hh; injection h with h; omega
 ·cases h
theorem run_bounds2 {isSlice : Bool} {len cap h l most : Nat} {lo hi : Option AV} {ulo uhi : Option Value} (hh : bnd hi len most = some h) (hl : bnd lo 0 h = some l) (rlo : RepO Z φ lo ulo) (rhi : RepO Z φ hi uhi)
  (hm : most <= cap) (w : World) : (Instr.sliceBounds isSlice len cap ulo uhi none).run P w = .ok (l, h, cap) w := by
 cases hi with
 | none =>
  cases uhi with
  | some _ => exact rhi.elim
  | none =>
   simp only [bnd, Option.some.injEq] at hh; subst hh
   cases lo with
   | none =>
    cases ulo with
    | some _ => exact rlo.elim
    | none => simp only [bnd, Option.some.injEq] at hl; subst hl; simp [Instr.sliceBounds, go_sem]
   | some x =>
    cases ulo with
    | none => exact rlo.elim
    | some u => have := fun c => run_bound (P := P) (code := c) hl rlo (Nat.le_refl _) w; simp [Instr.sliceBounds, this, go_sem]
 | some x =>
  cases uhi with
  | none => exact rhi.elim
  | some u =>
   have hb := fun c => run_bound (P := P) (code := c) hh rhi hm w
   cases lo with
   | none =>
    cases ulo with
    | some _ => exact rlo.elim
    | none => simp only [bnd, Option.some.injEq] at hl; subst hl; simp [Instr.sliceBounds, hb, go_sem]
   | some x =>
    cases ulo with
    | none => exact rlo.elim
    | some u => have := fun c => run_bound (P := P) (code := c) hl rlo (Nat.le_refl _) w; simp [Instr.sliceBounds, this, hb, go_sem]
theorem run_bounds3 {isSlice : Bool} {len cap m h l d : Nat} {lo : Option AV} {ulo : Option Value} {x y : AV} {u v : Value} {most : Nat} (hmx : bnd (some y) d most = some m) (hm : most <= cap) (hh : bnd (some x) len m = some h) (hl : bnd lo 0 h = some l)
  (rlo : RepO Z φ lo ulo) (rx : Rep Z φ x u) (ry : Rep Z φ y v) (w : World) : (Instr.sliceBounds isSlice len cap ulo (some u) (some v)).run P w = .ok (l, h, m) w := by
 have h1 := fun c => run_bound (P := P) (code := c) hmx ry hm w
 have h2 := fun c => run_bound (P := P) (code := c) hh rx (Nat.le_refl _) w
 cases lo with
 | none =>
  cases ulo with
  | some _ => exact rlo.elim
  | none => simp only [bnd, Option.some.injEq] at hl; subst hl; simp [Instr.sliceBounds, h1, h2, go_sem]
 | some x =>
  cases ulo with
  | none => exact rlo.elim
  | some u => have := fun c => run_bound (P := P) (code := c) hl rlo (Nat.le_refl _) w; simp [Instr.sliceBounds, h1, h2, this, go_sem]
theorem bnd_le' {x : Option AV} {n most d : Nat} (h : bnd x d most = some n) (hd : d <= most) : n <= most := by
 cases x with
 | none => simp only [bnd, Option.some.injEq] at h; omega
 | some x => exact bnd_le h
theorem run_boundsAny {isSlice : Bool} {len cap most h l : Nat} {m : Option Nat} {lo hi mx : Option AV} {ulo uhi umx : Option Value}
  (hmx : mxB mx most = some m) (hm : most <= cap) (hlen : len <= most)
  (hh : bnd hi len (m.getD most) = some h) (hl : bnd lo 0 h = some l) (hn : (mx.isSome && hi.isNone) = false)
  (rlo : RepO Z φ lo ulo) (rhi : RepO Z φ hi uhi) (rmx : RepO Z φ mx umx) (w : World) :
  (Instr.sliceBounds isSlice len cap ulo uhi umx).run P w = .ok (l, h, m.getD cap) w /\ l <= h /\ h <= m.getD cap /\ (∀ k, m = some k -> k <= most) := by
 cases mx with
 | none =>
  cases umx with
  | some _ => exact rmx.elim
  | none =>
   simp only [mxB, Option.some.injEq] at hmx; subst hmx
   have := bnd_le' hh (by simpa using hlen)
   simp only [Option.getD_none] at this hh ⊢
   exact ⟨run_bounds2 hh hl rlo rhi hm w, bnd_le' hl (Nat.zero_le _), by omega, fun k hk => by cases hk⟩
 | some y =>
  cases umx with
  | none => exact rmx.elim
  | some v =>
   simp only [mxB, Option.map_eq_some_iff] at hmx
   obtain ⟨m', hm', rfl⟩ := hmx
   cases hi with
   | none => simp at hn
   | some x =>
    cases uhi with
    | none => exact rhi.elim
    | some u =>
     simp only [Option.getD_some] at hh ⊢
     exact ⟨run_bounds3 hm' hm hh hl rlo rhi rmx w, bnd_le' hl (Nat.zero_le _), bnd_le hh, fun k hk => by injection hk with hk; subst hk; exact bnd_le hm'⟩
theorem run_sliceAt {t e s : Nat} {ao : Option Addr} {len cap l h m : Nat} {ulo uhi umx : Option Value} (hu : P.underlying t = some (.slice e)) (hs : szOf P e = some s)
  (hb : (Instr.sliceBounds true len cap ulo uhi umx).run P w = .ok (l, h, m) w) :
  (Instr.sliceAt t (.slice ao len cap) ulo uhi umx).run P w = .ok (.slice (if m = l then ao else ao.map (·.add (l * s))) (h - l) (m - l)) w := by
 unfold Instr.sliceAt
 refine run_bind' (run_underlying' hu w) ?_
 unfold Instr.slice
 refine run_bind' (run_underlying' hu w) ?_
 refine run_bind' hb ?_
 exact run_bind' (run_szOf hs w) rfl
theorem slice_rs {t e s0 : Nat} {xs : List (List AV)} {u : Value} {lo hi mx : Option AV} {ulo uhi umx : Option Value} {m : Option Nat} {h l : Nat} (hu : P.underlying t = some (.slice e)) (hx : Rep Z φ (.rs xs) u) (rlo : RepO Z φ lo ulo) (rhi : RepO Z φ hi uhi) (rmx : RepO Z φ mx umx)
  (hn : ¬ (mx.isSome && hi.isNone) = true) (hs : szOf P e = some s0) (hm : mxB mx xs.length = some m) (hh : bnd hi xs.length (m.getD xs.length) = some h) (hl : bnd lo 0 h = some l) (hfit : fitsS xs s0 ≠ false) :
  ∃ q, (Instr.sliceAt t u ulo uhi umx).run P w = .ok q w /\ Rep Z φ (.rs ((xs.take h).drop l)) q := by
 cases hx with
 | rs0 =>
  simp only [List.length_nil] at hm hh
  obtain ⟨hb, h1, h2, h3⟩ := run_boundsAny (P := P) (isSlice := true) (cap := 0) hm (Nat.le_refl _) (Nat.le_refl _) hh hl ((Bool.not_eq_true _).mp hn) rlo rhi rmx w
  refine ⟨_, run_sliceAt hu hs hb, ?_⟩
  have hm0 : m.getD 0 = 0 := by cases m with | none => rfl | some k => have := h3 k rfl; simp only [Option.getD_some]; omega
  have e1 : h - l = 0 := by omega
  have e2 : m.getD 0 - l = 0 := by omega
  have e3 : (([] : List (List AV)).take h).drop l = [] := by simp
  rw [e1, e2, e3]
  by_cases hml : m.getD 0 = l
  ·rw [if_pos hml]; exact .rs0
  ·rw [if_neg hml]; exact .rs0
 | rs us hxn hc ha h0 g1 g2 =>
 rename_i B off c s n a
 subst hxn
 obtain ⟨hb, h1, h2, h3⟩ := run_boundsAny (P := P) (isSlice := true) hm hc (Nat.le_refl _) hh hl ((Bool.not_eq_true _).mp hn) rlo rhi rmx w
 refine ⟨_, run_sliceAt hu hs hb, ?_⟩
 have hlx : h <= xs.length := by
  cases m with
  | none => exact bnd_le' hh (by simp)
  | some k =>
   have h4 := h3 k rfl
   cases hi with
   | none =>
    cases mx with
    | none => simp [mxB] at hm
    | some y => simp at hn
   | some y => have := bnd_le hh; simp only [Option.getD_some] at this; omega
 have hlen : ((xs.take h).drop l).length = h - l := by simp; omega
 have hget : ∀ i e, ((xs.take h).drop l)[i]? = some e -> xs[l + i]? = some e := fun i e hi => by
  rw [List.getElem?_drop, List.getElem?_take] at hi
  split at hi
  ·exact hi
  ·cases hi
 by_cases hmc : m.getD c = l
 ·rw [if_pos hmc]
  have : h - l = 0 := by omega
  rw [this] at hlen ⊢
  have hnil := List.eq_nil_of_length_eq_zero hlen
  rw [hnil]
  exact .rs (s := 0) (B := 0) (off := 0) (fun _ _ => Go.undef) rfl (by omega) (.inr rfl) (fun i e hi => by simp at hi) (fun i e j v hi => by simp at hi) (fun i e j v hi => by simp at hi)
 ·rw [if_neg hmc]
  refine .rs (s := s) (B := B) (off := off + l * s) (fun i j => us (l + i) j) hlen (by omega) ?_ (fun i e hi => h0 _ _ (hget i e hi)) (fun i e j v hi hj => ?_) (fun i e j v hi hj => g2 _ _ _ _ (hget i e hi) hj)
  ·by_cases hx0 : xs.length = 0
   ·right; omega
   rcases ha with rfl | hz
   ·left; show Addr.add _ _ = _; rw [add_none]; congr 1
    cases xs with
    | nil => exact absurd rfl hx0
    | cons e0 xs =>
     have h5 := (h0 0 e0 rfl).1
     simp only [fitsS, beq_eq_false_iff_ne, ne_eq, Decidable.not_not] at hfit
     rw [<- h5, hfit]
   ·right; omega
  ·have := g1 _ _ _ _ (hget i e hi) hj
   rw [Nat.add_mul] at this
   rw [<- this]; congr 1; omega
theorem sound_slice {t : TypeId} {x r : AV} {u : Value} {lo hi mx : Option AV} {ulo uhi umx : Option Value} (hx : Rep Z φ x u) (rlo : RepO Z φ lo ulo) (rhi : RepO Z φ hi uhi) (rmx : RepO Z φ mx umx)
    (hr : aslice P t x lo hi mx = some r) : ∃ q, (Instr.sliceAt t u ulo uhi umx).run P w = .ok q w /\ Rep Z φ r q := by
  unfold aslice at hr
  split at hr
  · rename_i s hu
    cases hx
    split at hr
    · cases hr
    · rename_i hmx
      have hmx0 : mx = none := by simpa using hmx
      subst hmx0
      cases umx with
      | some _ => exact rmx.elim
      | none =>
        simp only [Option.bind_eq_bind, Option.bind_eq_some_iff, Option.some.injEq] at hr
        obtain ⟨h, hh, l, hl, rfl⟩ := hr
        have hb := run_bounds2 (P := P) (isSlice := false) hh hl rlo rhi (Nat.le_refl _) w
        refine ⟨.string ⟨((s.take h).drop l).toArray⟩, ?_, .str _⟩
        unfold Instr.sliceAt
        refine run_bind' (run_underlying' hu w) ?_
        unfold Instr.slice
        refine run_bind' (run_underlying' hu w) ?_
        simp only [Option.isSome_none, Bool.false_eq_true, if_false]
        rw [size_mk]
        refine run_bind' hb ?_
        have : (⟨s.toArray⟩ : ByteArray).extract l h = ⟨((s.take h).drop l).toArray⟩ := by
          apply ByteArray.ext
          rw [ByteArray.data_extract]
          apply Array.ext'
          simp [List.extract_eq_take_drop, List.drop_take]
        rw [this]; rfl
  · rename_i e b s off len cap hu
    split at hr
    · cases hr
    · rename_i hsn
      simp only [not_or, ne_eq, Decidable.not_not] at hsn
      obtain ⟨hs', hn⟩ := hsn
      simp only [Option.bind_eq_bind, Option.bind_eq_some_iff, Option.some.injEq] at hr
      obtain ⟨m, hm, h, hh, l, hl, rfl⟩ := hr
      have zero : ∀ ao : Option Addr, u = .slice ao 0 0 -> len = 0 -> capOk cap 0 0 -> ∃ q, (Instr.sliceAt t u ulo uhi umx).run P w = .ok q w /\ Rep Z φ (.sl b s (off + l) (h - l) (newCap m l cap)) q := by
        intro ao hu0 hl0 hc0
        subst hu0 hl0
        have hmost : cap.getD 0 <= 0 := by cases cap with | none => simp | some k => simp only [capOk] at hc0; simp; omega
        obtain ⟨hb, h1, h2, h3⟩ := run_boundsAny (P := P) (isSlice := true) (cap := 0) hm hmost (by omega) hh hl ((Bool.not_eq_true _).mp hn) rlo rhi rmx w
        refine ⟨_, run_sliceAt hu hs' hb, ?_⟩
        have hm0 : m.getD 0 = 0 := by cases m with | none => rfl | some k => have := h3 k rfl; simp only [Option.getD_some]; omega
        have e1 : h - l = 0 := by omega
        have e2 : m.getD 0 - l = 0 := by omega
        rw [e1, e2]
        have hcap : capOk (newCap m l cap) 0 0 := by
          cases m with
          | none => cases cap with
            | none => exact Nat.le_refl 0
            | some k => simp only [newCap, capOk, Option.map_some] at hc0 ⊢; omega
          | some m => simp only [newCap, capOk, Option.getD_some] at hm0 ⊢; omega
        cases ao with
        | none => by_cases hml : m.getD 0 = l
                  · rw [if_pos hml]; exact .sl0n hcap
                  · rw [if_neg hml]; exact .sl0n hcap
        | some a => by_cases hml : m.getD 0 = l
                    · rw [if_pos hml]; exact .sl0s hcap _
                    · rw [if_neg hml]; exact .sl0s hcap _
      cases hx with
      | sl0n hc0 => exact zero _ rfl rfl hc0
      | sl0s hc0 a => exact zero _ rfl rfl hc0
      | sl hf hls hc hlc hlm ha =>
      subst hls
      rename_i c lo2 a
      have hmost : cap.getD len <= c := by cases cap with | none => exact hlc | some k => simp only [capOk] at hc; simp [hc]
      have hlen : len <= cap.getD len := by cases cap with | none => simp | some k => simp only [capOk] at hc; simp; omega
      obtain ⟨hb, h1, h2, h3⟩ := run_boundsAny (P := P) (isSlice := true) hm hmost hlen hh hl ((Bool.not_eq_true _).mp hn) rlo rhi rmx w
      refine ⟨_, run_sliceAt hu hs' hb, ?_⟩
      have hcap : capOk (newCap m l cap) (h - l) (m.getD c - l) := by
        cases m with
        | some m => rfl
        | none =>
          cases cap with
          | none => simp only [newCap, capOk, Option.map_none, Option.getD_none] at h2 ⊢; omega
          | some k => simp only [newCap, capOk, Option.map_some, Option.getD_none] at hc ⊢; omega
      have hmc : m.getD c <= c := by
        cases m with
        | none => exact Nat.le_refl _
        | some k => have := h3 k rfl; simp only [Option.getD_some]; omega
      by_cases hml : m.getD c = l
      · rw [if_pos hml]
        exact .sl hf rfl hcap (by omega) (by omega) (.inr (by omega))
      · rw [if_neg hml]
        refine .sl hf rfl hcap (by omega) (by omega) ?_
        rcases ha with rfl | hc0
        · left; show Addr.add _ _ = _; rw [add_none, Nat.add_mul]; congr 1; omega
        · right; omega
  · rename_i e xs hu
    split at hr
    · cases hr
    · rename_i hn
      simp only [Option.bind_eq_bind, Option.bind_eq_some_iff] at hr
      obtain ⟨s0, hs, m, hm, h, hh, l, hl, hr⟩ := hr
      split at hr
      · cases hr
      rename_i hfit
      injection hr with hr; subst hr
      exact slice_rs hu hx rlo rhi rmx hn hs hm hh hl hfit
  · rename_i e τ xs hu
    split at hr
    · cases hr
    · rename_i hn
      simp only [Option.bind_eq_bind, Option.bind_eq_some_iff] at hr
      obtain ⟨s0, hs, m, hm, h, hh, l, hl, hr⟩ := hr
      split at hr
      · rename_i hfit
        injection hr with hr; subst hr
        cases hx with
        | rl hx =>
        obtain ⟨q, hq, hrep⟩ := slice_rs (w := w) hu hx rlo rhi rmx hn hs (by simpa using hm) (by simpa using hh) hl (by
          cases xs with
          | nil => simp [fitsS]
          | cons y ys => simp [fitsS, Ty.enc_length, hfit])
        rw [show ((xs.map τ.enc).take h).drop l = ((xs.take h).drop l).map τ.enc from by rw [List.map_drop, List.map_take]] at hrep
        exact ⟨q, hq, hrep.toRl⟩
      · cases hr
  · rename_i e hu
    split at hr
    · cases hr
    · rename_i hn
      simp only [Option.bind_eq_bind, Option.bind_eq_some_iff, Option.some.injEq] at hr
      obtain ⟨s0, hs, m, hm, h, hh, l, hl, rfl⟩ := hr
      cases hx
      obtain ⟨hb, h1, h2, h3⟩ := run_boundsAny (P := P) (isSlice := true) (cap := 0) hm (Nat.le_refl _) (Nat.le_refl _) hh hl ((Bool.not_eq_true _).mp hn) rlo rhi rmx w
      refine ⟨_, run_sliceAt hu hs hb, ?_⟩
      have hm0 : m.getD 0 = 0 := by cases m with | none => rfl | some k => have := h3 k rfl; simp only [Option.getD_some]; omega
      have e1 : h - l = 0 := by omega
      have e2 : m.getD 0 - l = 0 := by omega
      rw [e1, e2]
      by_cases hml : m.getD 0 = l
      · rw [if_pos hml]; exact .nils
      · rw [if_neg hml]; exact .nils
  · rename_i e hu
    split at hr
    · cases hr
    · rename_i hn
      simp only [Option.bind_eq_bind, Option.bind_eq_some_iff, Option.some.injEq] at hr
      obtain ⟨s0, hs, m, hm, h, hh, l, hl, rfl⟩ := hr
      cases hx
      obtain ⟨hb, h1, h2, h3⟩ := run_boundsAny (P := P) (isSlice := true) (cap := 0) hm (Nat.le_refl _) (Nat.le_refl _) hh hl ((Bool.not_eq_true _).mp hn) rlo rhi rmx w
      refine ⟨_, run_sliceAt hu hs hb, ?_⟩
      have hm0 : m.getD 0 = 0 := by cases m with | none => rfl | some k => have := h3 k rfl; simp only [Option.getD_some]; omega
      have e1 : h - l = 0 := by omega
      have e2 : m.getD 0 - l = 0 := by omega
      rw [e1, e2]
      by_cases hml : m.getD 0 = l
      · rw [if_pos hml]; exact .emp _
      · rw [if_neg hml]; exact .emp _
  · cases hr
end
end Go.Lom

/- Composites, lengths, maps read: sound; and all quiet operations together. -/
namespace Go.Lom
open Go.RowKit
section
variable {P : Program} {base : Nat -> Prop} {w0 : Start} {Z : ZMap} {φ : PMap} {H : Heap} {nx : Nat} {w : World}
theorem rep_cells {x : AV} {u : Value} {cs : List AV} (h : cellsOf x = some cs) (hx : Rep Z φ x u) :
  Reps Z φ cs u.cells /\ cs.all oneC = true := by
 unfold cellsOf at h
 split at h
 ·split at h
  ·rename_i ha
   injection h with h; subst h
   cases hx with | agg hl hh => exact ⟨⟨hl, hh⟩, ha⟩
  ·cases h
 ·rename_i t xs
  injection h with h; subst h
  have hx := hx.ofAr
  generalize hc : AV.agg (xs.flatMap t.enc) = a at hx
  cases hx <;> cases hc
  rename_i us hl hh
  exact ⟨⟨hl, hh⟩, flatMap_all t.enc_oneC xs⟩
 ·split at h
  ·rename_i hne hne2 ho
   injection h with h; subst h
   have : u.cells = #[u] := by
    cases hx <;> first | rfl | (simp [oneC] at ho; done) | exact absurd rfl (hne _)
   rw [this]
   refine ⟨⟨rfl, fun i v q hi hq => ?_⟩, by simp [ho]⟩
   match i with
   | 0 => simp at hi hq; subst hi hq; exact hx
   | i + 1 => simp at hi
  ·cases h
def foldSet (cells : Array Value) (off : Nat) : List Value -> Array Value
 | [] => cells
 | c :: cs => foldSet (cells.setIfInBounds off c) (off + 1) cs
theorem foldSet_eq (off : Nat) : ∀ (l : List Value) (k : Nat) (cells : Array Value), (l.zipIdx k).foldl (fun (cs : Array Value) p => cs.setIfInBounds (off + p.2) p.1) cells = foldSet cells (off + k) l
 | [], _, _ => rfl
 | c :: l, k, cells => by
  simp only [List.zipIdx_cons, List.foldl_cons, foldSet]
  rw [foldSet_eq off l (k + 1)]; rfl
theorem reps_set {e : List AV} {us : Array Value} (h : Reps Z φ e us) {o : Nat} {v : AV} {u : Value} (hr : Rep Z φ v u) : Reps Z φ (e.set o v) (us.setIfInBounds o u) := by
 refine ⟨by simp [h.1], fun i a b hi hb => ?_⟩
 rw [List.getElem?_set] at hi
 rw [Array.getElem?_setIfInBounds] at hb
 by_cases ho : o = i
 ·subst ho
  rw [if_pos rfl] at hi hb
  split at hi
  ·rw [if_pos (by have := h.1; omega)] at hb
   injection hi with hi; injection hb with hb; subst hi hb; exact hr
  ·cases hi
 ·rw [if_neg ho] at hi hb
  exact h.2 i a b hi hb
theorem reps_splice : ∀ (cs : List AV) (us : List Value) (e : List AV) (cells : Array Value) (o : Nat), Reps Z φ e cells -> us.length = cs.length -> (∀ (i : Nat) (v : AV) (u : Value), cs[i]? = some v -> us[i]? = some u -> Rep Z φ v u) ->
  Reps Z φ (splice e o cs) (foldSet cells o us)
 | [], us, e, cells, o, h, hl, _ => by
  cases us with
  | nil => exact h
  | cons _ _ => simp at hl
 | v :: cs, us, e, cells, o, h, hl, hr => by
  cases us with
  | nil => simp at hl
  | cons u us =>
   simp only [splice, foldSet]
   exact reps_splice cs us _ _ _ (reps_set h (hr 0 v u rfl rfl)) (by simpa using hl) fun i a b ha hb => hr (i + 1) a b (by simpa using ha) (by simpa using hb)
theorem splice_length : ∀ (cs e : List AV) (o : Nat), (splice e o cs).length = e.length
 | [], _, _ => rfl
 | _ :: cs, e, o => by simp [splice, splice_length cs]
theorem sound_fill {pl : Nat -> Option (Nat × Nat)} : ∀ (ps : List (Nat × AV)) (qs : List (Nat × Value)) (e r : List AV) (cells : Array Value), Reps Z φ e cells -> qs.length = ps.length ->
  (∀ (i : Nat) (p : Nat × AV) (q : Nat × Value), ps[i]? = some p -> qs[i]? = some q -> p.1 = q.1 /\ Rep Z φ p.2 q.2) -> afill pl e ps = some r -> ∃ c, Instr.fill pl cells qs = some c /\ Reps Z φ r c
 | [], qs, e, r, cells, h, hl, _, hr => by
  cases qs with
  | nil => simp only [afill, Option.some.injEq] at hr; subst hr; exact ⟨cells, rfl, h⟩
  | cons _ _ => simp at hl
 | (i, v) :: ps, qs, e, r, cells, h, hl, hp, hr => by
  cases qs with
  | nil => simp at hl
  | cons q qs =>
   obtain ⟨k, u⟩ := q
   obtain ⟨h1, h2⟩ := hp 0 (i, v) (k, u) rfl rfl
   simp only at h1 h2
   subst h1
   simp only [afill, Option.bind_eq_bind, Option.bind_eq_some_iff] at hr
   obtain ⟨⟨off, size⟩, hpl, cs, hcs, hr⟩ := hr
   rw [spliceF_eq] at hr
   obtain ⟨hreps, _⟩ := rep_cells hcs h2
   split at hr
   ·rename_i hh
    have e1 : u.cells.zipIdx.foldl (fun (cs : Array Value) p => cs.setIfInBounds (off + p.2) p.1) cells = foldSet cells off u.cells.toList := by
     rw [<- Array.foldl_toList, Array.toList_zipIdx, foldSet_eq]; rfl
    obtain ⟨c, hc, hrc⟩ := sound_fill ps qs _ r (foldSet cells off u.cells.toList)
     (reps_splice cs u.cells.toList e cells off h (by simpa using hreps.1) fun i a b ha hb => hreps.2 i a b ha (by simpa using hb)) (by simpa using hl)
     (fun j p q hj hq => hp (j + 1) p q (by simpa using hj) (by simpa using hq)) hr
    refine ⟨c, ?_, hrc⟩
    unfold Instr.fill
    have h3 := hreps.1
    have h4 := h.1
    simp only [hpl]
    rw [if_neg (by simp only [ne_eq, gt_iff_lt, Bool.or_eq_true, decide_eq_true_eq, not_or, Decidable.not_not]; omega)]
    rw [e1]
    exact hc
   ·cases hr
theorem run_mapM {α β : Type} (g : α -> Sem β) (k : α -> Option β) (hg : ∀ x y, k x = some y -> (g x).run P w = .ok y w) : ∀ (l : List α) (ys : List β), l.mapM k = some ys -> (l.mapM g).run P w = .ok ys w
 | [], ys, h => by simp at h; subst h; rfl
 | x :: l, ys, h => by
  rw [List.mapM_cons] at h ⊢
  simp only [Option.bind_eq_bind, Option.bind_eq_some_iff, Option.pure_def, Option.some.injEq] at h
  obtain ⟨y, hy, ys', h1, rfl⟩ := h
  exact run_bind' (hg x y hy) (run_bind' (run_mapM g k hg l ys' h1) rfl)
theorem run_places {fs : Array Field} {pl : List (Nat × Nat)} (h : placesOf P fs = some pl) (w : World) :
  (fs.mapM fun f => do pure (f.offset, <- sizeOf f.type) : Sem (Array (Nat × Nat))).run P w = .ok pl.toArray w := by
 rw [Array.mapM_eq_mapM_toList]
 have := run_mapM (P := P) (w := w) (fun (f : Field) => do pure (f.offset, <- sizeOf f.type)) (fun f => (szOf P f.type).map fun n => (f.offset, n)) (fun f y hy => by
  simp only [Option.map_eq_some_iff] at hy
  obtain ⟨n, hn, rfl⟩ := hy
  exact run_bind' (run_szOf hn w) rfl) fs.toList pl h
 rw [map_eq_pure_bind]
 exact run_bind' this rfl
theorem sound_build {t : TypeId} {ps : List (Nat × AV)} {qs : Array (Nat × Value)} {r : AV} (hl : qs.size = ps.length)
  (hp : ∀ (i : Nat) (p : Nat × AV) (q : Nat × Value), ps[i]? = some p -> qs[i]? = some q -> p.1 = q.1 /\ Rep Z φ p.2 q.2) (hr : abuild P t ps = some r) :
  ∃ q, (Instr.build t qs).run P w = .ok q w /\ Rep Z φ r q := by
 unfold abuild at hr
 simp only [Option.bind_eq_bind, Option.bind_eq_some_iff] at hr
 obtain ⟨z, hz, hr⟩ := hr
 unfold zeroCellsOf at hz
 simp only [Option.bind_eq_some_iff] at hz
 obtain ⟨z0, hz0, hz⟩ := hz
 obtain ⟨zu, hzu, hzr⟩ := run_zeroValue (Z := Z) (φ := φ) hz0 w
 obtain ⟨hzc, _⟩ := rep_cells hz hzr
 have hl' : qs.toList.length = ps.length := by simpa using hl
 have hp' : ∀ (i : Nat) (p : Nat × AV) (q : Nat × Value), ps[i]? = some p -> qs.toList[i]? = some q -> p.1 = q.1 /\ Rep Z φ p.2 q.2 := fun i p q a b => hp i p q a (by simpa using b)
 split at hr
 ·rename_i fs hu
  simp only [Option.bind_eq_some_iff, Option.map_eq_some_iff] at hr
  obtain ⟨pl, hpl, cs, hcs, rfl⟩ := hr
  obtain ⟨c, hc, hrc⟩ := sound_fill ps qs.toList z cs zu.cells hzc hl' hp' hcs
  refine ⟨.agg c, ?_, .agg hrc.1 hrc.2⟩
  unfold Instr.build
  refine run_bind' hzu (run_bind' (run_underlying' hu w) (run_bind' (run_places hpl w) ?_))
  have e1 : (fun x : Nat => pl.toArray[x]?) = fun i : Nat => pl[i]? := by funext i; simp
  rw [e1, hc]; rfl
 ·rename_i n e hu
  simp only [Option.bind_eq_some_iff, Option.map_eq_some_iff] at hr
  obtain ⟨s, hs, cs, hcs, rfl⟩ := hr
  obtain ⟨c, hc, hrc⟩ := sound_fill ps qs.toList z cs zu.cells hzc hl' hp' hcs
  refine ⟨.agg c, ?_, .agg hrc.1 hrc.2⟩
  unfold Instr.build
  refine run_bind' hzu (run_bind' (run_underlying' hu w) (run_bind' (run_szOf hs w) ?_))
  rw [hc]; rfl
 ·cases hr
theorem sound_extract {x r : AV} {u : Value} {i : Nat} (hx : Rep Z φ x u) (hr : aextract x i = some r) : ∃ q, (Instr.extract u i).run P w = .ok q w /\ Rep Z φ r q := by
 unfold aextract at hr
 cases hx with
 | tup hl h =>
  rename_i cs us
  have hlt : i < us.size := by have := (List.getElem?_eq_some_iff.1 hr).1; omega
  refine ⟨us[i], ?_, h i r _ hr (Array.getElem?_eq_getElem hlt)⟩
  simp [Instr.extract, hlt, go_sem]
 | _ => simp at hr
theorem HRel.entries (h : HRel base w0 Z φ H nx w) {b : Nat} {blk : Blk} {es : List (AV × AV)} {l : Loc} (hf : φ b = some l) (hb : H.get b = some blk) (hes : asMp blk = some es) :
  ∃ ms clk, w.heap[l.B]? = some (.map ms clk) /\ bornOk ms clk /\ ms.size = es.length /\ ∀ (i : Nat) (k v : AV) (m : MapEntry), es[i]? = some (k, v) -> ms[i]? = some m -> Rep Z φ k m.key /\ Rep Z φ v m.val := by
 have hg : blk.ghost = false := by cases blk <;> first | rfl | (simp [asMp] at hes; done)
 obtain ⟨l', hf', _, hr⟩ := h.own b _ hb hg
 rw [hf] at hf'; injection hf' with hf'; subst hf'
 cases blk <;> simp only [asMp, Option.some.injEq, reduceCtorEq] at hes
 all_goals (subst hes; first | exact hr | exact hr.1)
theorem run_getObj_map' {B : Nat} {ms : Array MapEntry} {clk : Nat} (h : w.heap[B]? = some (.map ms clk)) : (getObj B).run P w = .ok (.map ms clk) w := by
 simp [getObj, Sem.run, h]
theorem sound_len (h : HRel base w0 Z φ H nx w) {t ty : TypeId} {x r : AV} {u : Value} (hx : Rep Z φ x u) (hr : alen P t x H = some r) :
  ∃ q, (Builtin.len_ #[t] ty #[u]).run P w = .ok q w /\ Rep Z φ r q := by
 unfold alen at hr
 split at hr
 ·rename_i s hu; cases hx; injection hr with hr; subst hr
  exact ⟨_, by simp [Builtin.len_, run_underlying' hu, size_mk, goInt, Sem.run_bind, go_sem], .int _ _⟩
 ·rename_i n e hu; injection hr with hr; subst hr
  exact ⟨_, by simp [Builtin.len_, run_underlying' hu, goInt, Sem.run_bind, go_sem], .int _ _⟩
 ·rename_i a hu
  split at hr
  ·rename_i n e hu2
   injection hr with hr; subst hr
   exact ⟨_, by simp [Builtin.len_, run_underlying' hu, run_underlying' hu2, goInt, Sem.run_bind, go_sem], .int _ _⟩
  ·cases hr
 ·rename_i e hu; cases hx; injection hr with hr; subst hr
  exact ⟨_, by simp [Builtin.len_, run_underlying' hu, goInt, Sem.run_bind, go_sem], .int _ _⟩
 ·rename_i e hu; cases hx; injection hr with hr; subst hr
  exact ⟨_, by simp [Builtin.len_, run_underlying' hu, goInt, Sem.run_bind, go_sem], .int _ _⟩
 ·rename_i e xs hu
  cases hx with
  | rs0 =>
   injection hr with hr; subst hr
   exact ⟨_, by simp [Builtin.len_, run_underlying' hu, goInt, Sem.run_bind, go_sem], .int _ _⟩
  | rs us hn hc ha h0 h1 h2 =>
  subst hn
  injection hr with hr; subst hr
  exact ⟨_, by simp [Builtin.len_, run_underlying' hu, goInt, Sem.run_bind, go_sem], .int _ _⟩
 ·rename_i e τ xs hu
  have hx := hx.ofRl
  injection hr with hr; subst hr
  generalize hys : xs.map τ.enc = ys at hx
  have hlen : xs.length = ys.length := by rw [<- hys]; simp
  rw [hlen]
  cases hx with
  | rs0 => exact ⟨_, by simp [Builtin.len_, run_underlying' hu, goInt, Sem.run_bind, go_sem], .int _ _⟩
  | rs us hn hc ha h0 h1 h2 =>
  subst hn
  exact ⟨_, by simp [Builtin.len_, run_underlying' hu, goInt, Sem.run_bind, go_sem], .int _ _⟩
 ·rename_i e b s off len cap hu
  cases hx with
  | sl0n hc =>
   injection hr with hr; subst hr
   exact ⟨_, by simp [Builtin.len_, run_underlying' hu, goInt, Sem.run_bind, go_sem], .int _ _⟩
  | sl0s hc a =>
   injection hr with hr; subst hr
   exact ⟨_, by simp [Builtin.len_, run_underlying' hu, goInt, Sem.run_bind, go_sem], .int _ _⟩
  | sl hf hs hc hl hm ha =>
  injection hr with hr; subst hr
  exact ⟨_, by simp [Builtin.len_, run_underlying' hu, goInt, Sem.run_bind, go_sem], .int _ _⟩
 ·rename_i k e hu; cases hx; injection hr with hr; subst hr
  exact ⟨_, by simp [Builtin.len_, run_underlying' hu, goInt, Sem.run_bind, go_sem], .int _ _⟩
 ·rename_i k e b hu
  simp only [Option.bind_eq_bind, Option.bind_eq_some_iff] at hr
  obtain ⟨blk, hb, es, hes, hr⟩ := hr
  cases hx with
  | mp hf =>
  obtain ⟨ms, clk, hw, _, hsz, _⟩ := h.entries hf hb hes
  injection hr with hr; subst hr
  exact ⟨_, by simp [Builtin.len_, run_underlying' hu, run_getObj_map' hw, goInt, hsz, Sem.run_bind, go_sem], .int _ _⟩
 ·cases hr
theorem sound_fold {f : AV -> AV -> Option AV} {g : Value -> Value -> Sem Value} (hfg : ∀ x y u v r, Rep Z φ x u -> Rep Z φ y v -> f x y = some r -> ∃ q, (g u v).run P w = .ok q w /\ Rep Z φ r q) :
  ∀ (l : List AV) (us : List Value) (x : AV) (u : Value) (r : AV), Rep Z φ x u -> us.length = l.length -> (∀ (i : Nat) (v : AV) (q : Value), l[i]? = some v -> us[i]? = some q -> Rep Z φ v q) -> foldO f x l = some r ->
   ∃ q, (us.foldlM g u).run P w = .ok q w /\ Rep Z φ r q
 | [], us, x, u, r, hx, hl, _, hr => by
  cases us with
  | nil => simp only [foldO, Option.some.injEq] at hr; subst hr; exact ⟨u, rfl, hx⟩
  | cons _ _ => simp at hl
 | y :: l, us, x, u, r, hx, hl, hp, hr => by
  cases us with
  | nil => simp at hl
  | cons v us =>
   simp only [foldO, Option.bind_eq_some_iff] at hr
   obtain ⟨z, hz, hr⟩ := hr
   obtain ⟨q, hq, hrq⟩ := hfg x y u v z hx (hp 0 y v rfl rfl) hz
   obtain ⟨q2, hq2, hr2⟩ := sound_fold hfg l us z q r hrq (by simpa using hl) (fun i a b ha hb => hp (i + 1) a b (by simpa using ha) (by simpa using hb)) hr
   exact ⟨q2, run_bind' hq hq2, hr2⟩
theorem sound_min2 {x y r : AV} {u v : Value} (hx : Rep Z φ x u) (hy : Rep Z φ y v) (hr : minI x y = some r) : ∃ q, (Builtin.min2 u v).run P w = .ok q w /\ Rep Z φ r q := by
 unfold minI at hr
 split at hr
 ·cases hx; cases hy; injection hr with hr; subst hr; exact ⟨_, rfl, .int _ _⟩
 ·cases hr
theorem sound_max2 {x y r : AV} {u v : Value} (hx : Rep Z φ x u) (hy : Rep Z φ y v) (hr : maxI x y = some r) : ∃ q, (Builtin.max2 u v).run P w = .ok q w /\ Rep Z φ r q := by
 unfold maxI at hr
 split at hr
 ·cases hx; cases hy; injection hr with hr; subst hr; exact ⟨_, rfl, .int _ _⟩
 ·cases hr
end
end Go.Lom

/- Maps read: sound; and all quiet operations together. -/
namespace Go.Lom
open Go.RowKit
section
variable {P : Program} {base : Nat -> Prop} {w0 : Start} {Z : ZMap} {φ : PMap} {H : Heap} {nx : Nat} {w : World}
theorem run_forIn_unit {α : Type} (f : α -> PUnit -> Sem (ForInStep PUnit)) : ∀ (l : List α), (∀ x ∈ l, (f x PUnit.unit).run P w = .ok (.yield PUnit.unit) w) -> (forIn l PUnit.unit f).run P w = .ok PUnit.unit w
 | [], _ => rfl
 | x :: l, h => by
  rw [List.forIn_cons]
  refine run_bind' (h x (by simp)) ?_
  exact run_forIn_unit f l fun y hy => h y (by simp [hy])
theorem run_checkKey (em : Bool) : ∀ (d : Nat) (t : TypeId) (x : AV) (u : Value), Rep Z φ x u -> keyOk P d t x = true -> (Instr.checkKey em d t u).run P w = .ok () w
 | 0, _, _, _, _, h => by simp [keyOk] at h
 | d + 1, t, x, u, hx, h => by
  unfold keyOk at h
  unfold Instr.checkKey
  split at h
  ·rename_i hu; exact run_bind' (run_underlying' hu w) rfl
  ·rename_i hu; exact run_bind' (run_underlying' hu w) rfl
  ·rename_i hu; exact run_bind' (run_underlying' hu w) rfl
  ·rename_i len e cs hu
   cases hx with
   | agg hl hr =>
   refine run_bind' (run_underlying' hu w) ?_
   cases hs : szOf P e with
   | none => simp [hs] at h
   | some n =>
    simp only [hs, List.all_eq_true] at h
    simp only [Std.Legacy.Range.forIn_eq_forIn_range', Std.Legacy.Range.size, Nat.sub_zero, Nat.add_one_sub_one, Nat.div_one]
    refine run_bind' (run_forIn_unit _ _ fun i hi => ?_) rfl
    have h2 := h i (by simpa [List.mem_range'_1] using hi)
    split at h2
    ·rename_i y hy
     obtain ⟨v, hv, hrv⟩ := run_part (w := w) hy ⟨hl, hr⟩
     refine run_bind' (run_szOf hs w) (run_bind' hv (run_bind' (run_checkKey em d e y v hrv h2) rfl))
    ·cases h2
  ·rename_i fs cs hu
   cases hx with
   | agg hl hr =>
   refine run_bind' (run_underlying' hu w) ?_
   simp only [List.all_eq_true] at h
   refine run_bind' (x := PUnit.unit) (w' := w) ?_ rfl
   rw [<- Array.forIn_toList]
   refine run_forIn_unit _ _ fun f hf => ?_
   have h2 := h f hf
   by_cases hn : f.name = "_"
   ·simp [hn, go_sem]
   ·have hn2 : (f.name == "_") = false := by simpa using hn
    rw [hn2, Bool.false_or] at h2
    split at h2
    ·rename_i y hy
     obtain ⟨v, hv, hrv⟩ := run_part (w := w) hy ⟨hl, hr⟩
     have h3 := run_checkKey em d f.type y v hrv h2
     simp only [hn, ne_eq, not_false_eq_true, if_true]
     refine run_bind' hv ?_
     exact run_bind' h3 rfl
    ·cases h2
  ·cases h
theorem sameNow_of {d : Nat} {t : TypeId} {x y : AV} {u v : Value} {b : Bool} {td : TypeDesc} (hu : P.underlying t = some td) (hp : td = .bool \/ td = .string \/ ∃ k, td = .int k) (hx : Rep Z φ x u) (hy : Rep Z φ y v) (h : aeqIn P d t x y = some b) :
  Instr.sameNow td u v = some b := by
 cases d with
 | zero => simp [aeqIn] at h
 | succ d =>
  unfold aeqIn at h
  rw [hu] at h
  rcases hp with rfl | rfl | ⟨k, rfl⟩
  ·cases x <;> cases y <;> simp at h
   cases hx; cases hy; subst h; rfl
  ·cases x <;> cases y <;> simp at h
   cases hx; cases hy; subst h
   simp [Instr.sameNow, beq_toListBytes, toList_mk]
  ·cases x <;> cases y <;> simp at h
   cases hx; cases hy; obtain ⟨rfl, rfl⟩ := h
   simp [Instr.sameNow]
def FoundR (Z : ZMap) (φ : PMap) : Option (Nat × AV) -> Option (Nat × Value) -> Prop
 | none, none => True
 | some (i, x), some (j, u) => i = j /\ Rep Z φ x u
 | _, _ => False
def EntR (Z : ZMap) (φ : PMap) (es : List (AV × AV)) (ms : List MapEntry) : Prop :=
 ms.length = es.length /\ ∀ (i : Nat) (k v : AV) (m : MapEntry), es[i]? = some (k, v) -> ms[i]? = some m -> Rep Z φ k m.key /\ Rep Z φ v m.val
theorem EntR.tail {e : AV × AV} {m : MapEntry} {es : List (AV × AV)} {ms : List MapEntry} (h : EntR Z φ (e :: es) (m :: ms)) : EntR Z φ es ms :=
 ⟨by simpa using h.1, fun i k v m' a b => h.2 (i + 1) k v m' (by simpa using a) (by simpa using b)⟩
theorem found_now {kt : TypeId} {td : TypeDesc} (hu : P.underlying kt = some td) (hp : td = .bool \/ td = .string \/ ∃ k, td = .int k) {k : AV} {uk : Value} (hk : Rep Z φ k uk) :
  ∀ (es : List (AV × AV)) (ms : List MapEntry) (i : Nat) (r : Option (Nat × AV)), EntR Z φ es ms -> findK P kt k es i = some r -> ∃ q, Instr.findNow td uk ms i = some q /\ FoundR Z φ r q
 | [], ms, i, r, h, hr => by
  cases ms with
  | nil => simp only [findK, Option.some.injEq] at hr; subst hr; exact ⟨none, rfl, trivial⟩
  | cons _ _ => have := h.1; simp at this
 | (x, v) :: es, ms, i, r, h, hr => by
  cases ms with
  | nil => have := h.1; simp at this
  | cons m ms =>
   simp only [findK, Option.bind_eq_bind, Option.bind_eq_some_iff] at hr
   obtain ⟨b, hb, hr⟩ := hr
   obtain ⟨h1, h2⟩ := h.2 0 x v m rfl rfl
   have hs := sameNow_of hu hp hk h1 hb
   unfold Instr.findNow
   rw [hs]
   cases b
   ·simp only [Bool.false_eq_true, if_false] at hr
    exact found_now hu hp hk es ms (i + 1) r h.tail hr
   ·simp only [if_true, Option.some.injEq] at hr; subst hr
    exact ⟨_, rfl, rfl, h2⟩
theorem found_asking {kt : TypeId} {k : AV} {uk : Value} (hk : Rep Z φ k uk) :
  ∀ (es : List (AV × AV)) (ms : List MapEntry) (i : Nat) (r : Option (Nat × AV)), EntR Z φ es ms -> findK P kt k es i = some r -> ∃ q, (Instr.findAsking kt uk ms i).run P w = .ok q w /\ FoundR Z φ r q
 | [], ms, i, r, h, hr => by
  cases ms with
  | nil => simp only [findK, Option.some.injEq] at hr; subst hr; exact ⟨none, rfl, trivial⟩
  | cons _ _ => have := h.1; simp at this
 | (x, v) :: es, ms, i, r, h, hr => by
  cases ms with
  | nil => have := h.1; simp at this
  | cons m ms =>
   simp only [findK, Option.bind_eq_bind, Option.bind_eq_some_iff] at hr
   obtain ⟨b, hb, hr⟩ := hr
   obtain ⟨h1, h2⟩ := h.2 0 x v m rfl rfl
   have hs : (Op.equal kt uk m.key).run P w = .ok b w := sound_eqIn 10000 kt _ _ _ _ _ hk h1 hb
   unfold Instr.findAsking
   cases b
   ·simp only [Bool.false_eq_true, if_false] at hr
    obtain ⟨q, hq, hrq⟩ := found_asking hk es ms (i + 1) r h.tail hr
    exact ⟨q, run_bind' hs (by simpa using hq), hrq⟩
   ·simp only [if_true, Option.some.injEq] at hr; subst hr
    exact ⟨_, run_bind' hs rfl, rfl, h2⟩
theorem run_findKey {kt : TypeId} {k : AV} {uk : Value} (hk : Rep Z φ k uk) {es : List (AV × AV)} {ms : List MapEntry} {r : Option (Nat × AV)} (he : EntR Z φ es ms) (hok : keyOk P 10000 kt k = true) (hr : findK P kt k es 0 = some r) :
  ∃ q, (Instr.findKey kt uk ms).run P w = .ok q w /\ FoundR Z φ r q := by
 cases hu : P.underlying kt with
 | none => simp [keyOk, hu] at hok
 | some td =>
  unfold Instr.findKey
  by_cases hp : td = .bool \/ td = .string \/ ∃ k, td = .int k
  ·obtain ⟨q, hq, hrq⟩ := found_now hu hp hk es ms 0 r he hr
   exact ⟨q, run_bind' (run_underlying' hu w) (by rw [hq]; rfl), hrq⟩
  ·cases ms with
   | nil =>
    have : es = [] := List.eq_nil_of_length_eq_zero (by have := he.1; simpa using this.symm)
    subst this
    simp only [findK, Option.some.injEq] at hr; subst hr
    exact ⟨none, run_bind' (run_underlying' hu w) rfl, trivial⟩
   | cons m ms =>
    obtain ⟨q, hq, hrq⟩ := found_asking (w := w) hk es (m :: ms) 0 r he hr
    refine ⟨q, run_bind' (run_underlying' hu w) ?_, hrq⟩
    have : Instr.findNow td uk (m :: ms) 0 = none := by
     have h2 : Instr.sameNow td uk m.key = none := by
      unfold Instr.sameNow
      split <;> first | rfl | (exfalso; apply hp; simp; done)
     unfold Instr.findNow; rw [h2]
    rw [this]; exact hq
theorem mapT_some {t kt et : TypeId} (h : mapT P t = some (kt, et)) : P.underlying t = some (.map kt et) := by
 unfold mapT at h
 split at h
 ·rename_i h2; injection h with h; injection h with h h'; subst h h'; exact h2
 ·cases h
theorem findU_spec {kt : TypeId} {k : AV} : ∀ {es : List (AV × AV)} {o : Option AV}, findU P kt k es = some o ->
  (∀ p ∈ es, keyEq P kt k p.1 = some false \/ keyEq P kt k p.1 = some true /\ o = some p.2) /\ (∀ v, o = some v -> ∃ p ∈ es, keyEq P kt k p.1 = some true)
 | [], o, h => by
  simp only [findU, Option.some.injEq] at h; subst h
  exact ⟨fun p hp => by simp at hp, fun v hv => by cases hv⟩
 | (x, v) :: es, o, h => by
  simp only [findU, Option.bind_eq_bind, Option.bind_eq_some_iff] at h
  obtain ⟨b, hb, o', ho, h⟩ := h
  obtain ⟨h1, h2⟩ := findU_spec ho
  cases b with
  | false =>
   simp only [Bool.false_eq_true, if_false, Option.some.injEq] at h; subst h
   refine ⟨fun p hp => ?_, fun v' hv => let ⟨p, hp, hk⟩ := h2 v' hv; ⟨p, List.mem_cons_of_mem _ hp, hk⟩⟩
   rcases List.mem_cons.1 hp with rfl | hp
   ·exact .inl hb
   ·exact h1 p hp
  | true =>
   simp only [if_true] at h
   cases o' with
   | some _ => cases h
   | none =>
    simp only [Option.some.injEq] at h; subst h
    refine ⟨fun p hp => ?_, fun v' _ => ⟨_, List.mem_cons_self .., hb⟩⟩
    rcases List.mem_cons.1 hp with rfl | hp
    ·exact .inr ⟨hb, rfl⟩
    ·rcases h1 p hp with h3 | ⟨_, h3⟩
     ·exact .inl h3
     ·cases h3
theorem findK_any {kt : TypeId} {k : AV} {o : Option AV} : ∀ {es : List (AV × AV)} (i : Nat), (∀ p ∈ es, keyEq P kt k p.1 = some false \/ keyEq P kt k p.1 = some true /\ o = some p.2) ->
  (∃ r, findK P kt k es i = some r /\ ((r = none /\ ∀ p ∈ es, keyEq P kt k p.1 = some false) \/ ∃ j v, r = some (j, v) /\ o = some v))
 | [], i, _ => ⟨none, rfl, .inl ⟨rfl, fun p hp => by simp at hp⟩⟩
 | (x, v) :: es, i, h => by
  rcases h (x, v) (List.mem_cons_self ..) with hb | ⟨hb, ho⟩
  ·obtain ⟨r, h1, h2⟩ := findK_any (es := es) (i + 1) fun p hp => h p (List.mem_cons_of_mem _ hp)
   refine ⟨r, by simp [findK, hb, h1], ?_⟩
   rcases h2 with ⟨h2, h3⟩ | h2
   ·refine .inl ⟨h2, fun p hp => ?_⟩
    rcases List.mem_cons.1 hp with rfl | hp
    ·exact hb
    ·exact h3 p hp
   ·exact .inr h2
  ·exact ⟨some (i, v), by simp [findK, hb], .inr ⟨_, _, rfl, ho⟩⟩
theorem findK_perm {kt : TypeId} {k : AV} {es es' : List (AV × AV)} {o : Option AV} (hi : ∀ p, p ∈ es' -> p ∈ es) (ho : ∀ p, p ∈ es -> p ∈ es') (h : findU P kt k es = some o) :
  ∃ r, findK P kt k es' 0 = some r /\ r.map (·.2) = o := by
 obtain ⟨h1, h2⟩ := findU_spec h
 obtain ⟨r, h3, h4⟩ := findK_any (o := o) 0 fun p hp => h1 p (hi p hp)
 refine ⟨r, h3, ?_⟩
 rcases h4 with ⟨rfl, h4⟩ | ⟨j, v, rfl, h4⟩
 ·cases o with
  | none => rfl
  | some v =>
   obtain ⟨p, hp, hk⟩ := h2 v rfl
   rw [h4 p (ho p hp)] at hk; cases hk
 ·exact h4.symm
theorem lookup_fin {kt et : TypeId} {k r : AV} {uk : Value} {ok : Bool} (hk : Rep Z φ k uk) (hok : keyOk P 10000 kt k = true) {es : List (AV × AV)} {fnd : Option (Nat × AV)} (hfnd : findK P kt k es 0 = some fnd)
  (hr : (match fnd with
   | some (_, v) => some (if ok then .tup [v, .bool true] else v)
   | none => do
    let z <- zeroOf P et
    some (if ok then .tup [z, .bool false] else z)) = some r) (ms : Array MapEntry) (hent : EntR Z φ es ms.toList) : ∃ q, (do
   Instr.checkKey ms.isEmpty 10000 kt uk
   let (v, ok2) <- match <- Instr.findKey kt uk ms.toList with
    | some (_, v) => pure (v, true)
    | none => pure (<- zeroValue et, false)
   pure (if ok then .tuple #[v, .bool ok2] else v) : Sem Value).run P w = .ok q w /\ Rep Z φ r q := by
  obtain ⟨q, hq, hrq⟩ := run_findKey (w := w) hk hent hok hfnd
  cases fnd with
  | none =>
   cases q with
   | some _ => exact hrq.elim
   | none =>
    simp only [Option.bind_eq_bind, Option.bind_eq_some_iff, Option.some.injEq] at hr
    obtain ⟨z, hz, rfl⟩ := hr
    obtain ⟨zu, hzu, hzr⟩ := run_zeroValue (Z := Z) (φ := φ) hz w
    refine ⟨if ok then .tuple #[zu, .bool false] else zu, ?_, by
     cases ok with
     | false => exact hzr
     | true => exact rep_pair hzr (.bool _)⟩
    refine run_bind' (run_checkKey _ 10000 kt k uk hk hok) ?_
    refine run_bind' hq ?_
    exact run_bind' hzu rfl
  | some p =>
   obtain ⟨i, v⟩ := p
   cases q with
   | none => exact hrq.elim
   | some q =>
    obtain ⟨j, vu⟩ := q
    obtain ⟨_, hrv⟩ := hrq
    simp only [Option.some.injEq] at hr; subst hr
    refine ⟨if ok then .tuple #[vu, .bool true] else vu, ?_, by
     cases ok with
     | false => exact hrv
     | true => exact rep_pair hrv (.bool _)⟩
    refine run_bind' (run_checkKey _ 10000 kt k uk hk hok) ?_
    exact run_bind' hq rfl
theorem sound_lookup0 (h : HRel base w0 Z φ H nx w) {t : TypeId} {x k r : AV} {u uk : Value} {ok : Bool} (hx : Rep Z φ x u) (hk : Rep Z φ k uk) (hr : alookup0 P t x k ok H = some r) :
  ∃ q, (Instr.lookup t u uk ok).run P w = .ok q w /\ Rep Z φ r q := by
 unfold alookup0 at hr
 simp only [Option.bind_eq_bind, Option.bind_eq_some_iff] at hr
 obtain ⟨⟨kt, et⟩, hmt, es, hes, hr⟩ := hr
 have hu := mapT_some hmt
 split at hr
 ·cases hr
 rename_i hok
 have hok : keyOk P 10000 kt k = true := by simpa using hok
 simp only [Option.bind_eq_some_iff] at hr
 obtain ⟨fnd, hfnd, hr⟩ := hr
 have fin := lookup_fin (w := w) (et := et) (r := r) (ok := ok) hk hok hfnd (by cases fnd <;> simpa using hr)
 unfold entriesOf at hes
 cases hx with
 | nilm =>
  injection hes with hes; subst hes
  obtain ⟨q, hq, hrq⟩ := fin #[] ⟨rfl, fun i k v m a => by simp at a⟩
  refine ⟨q, ?_, hrq⟩
  unfold Instr.lookup
  refine run_bind' (run_underlying' hu w) ?_
  exact hq
 | mp hf =>
  simp only [Option.bind_eq_some_iff] at hes
  obtain ⟨blk, hb, hes⟩ := hes
  obtain ⟨ms, clk, hw, _, hsz, hent⟩ := h.entries hf hb hes
  obtain ⟨q, hq, hrq⟩ := fin ms ⟨by simpa using hsz, fun i k v m a b => hent i k v m a (by simpa using b)⟩
  refine ⟨q, ?_, hrq⟩
  unfold Instr.lookup
  refine run_bind' (run_underlying' hu w) ?_
  refine run_bind' (run_getObj_map' hw) ?_
  exact hq
 | rt hZ hn hb e1 e2 =>
  rename_i κ ν l B ms clk
  injection hes with hes; subst hes
  have hw := h.z _ _ hZ
  obtain ⟨q, hq, hrq⟩ := fin ms ⟨by simpa [encM] using hn, fun i k v m a b => by
   rw [encM, List.getElem?_map] at a
   cases hp : l[i]? with
   | none => rw [hp] at a; cases a
   | some pr =>
    rw [hp] at a
    injection a with a; injection a with a1 a2
    subst a1 a2
    exact ⟨e1 i pr m hp (by simpa using b), e2 i pr m hp (by simpa using b)⟩⟩
  refine ⟨q, ?_, hrq⟩
  unfold Instr.lookup
  refine run_bind' (run_underlying' hu w) ?_
  refine run_bind' (run_getObj_map' hw) ?_
  exact hq
 | _ => simp at hes
theorem sound_lookup (h : HRel base w0 Z φ H nx w) {t : TypeId} {x k r : AV} {u uk : Value} {ok : Bool} (hx : Rep Z φ x u) (hk : Rep Z φ k uk) (hr : alookup P t x k ok H = some r) :
  ∃ q, (Instr.lookup t u uk ok).run P w = .ok q w /\ Rep Z φ r q := by
 unfold alookup at hr
 split at hr
 ·rename_i es
  unfold alookupR at hr
  simp only [Option.bind_eq_bind, Option.bind_eq_some_iff] at hr
  obtain ⟨⟨kt, et⟩, hmt, hr⟩ := hr
  have hu := mapT_some hmt
  split at hr
  ·cases hr
  rename_i hok
  have hok : keyOk P 10000 kt k = true := by simpa using hok
  simp only [Option.bind_eq_some_iff] at hr
  obtain ⟨o, ho, hr⟩ := hr
  cases hx with
  | rm hZ hn hi hoo h1 h2 =>
   obtain ⟨fnd, hfnd, hmap⟩ := findK_perm hi hoo ho
   obtain ⟨q, hq, hrq⟩ := lookup_fin (w := w) (et := et) (r := r) (ok := ok) hk hok hfnd (by
    subst hmap
    cases fnd <;> simpa using hr) _ ⟨by simpa using hn, fun i k v m a b => ⟨h1 i k v m a (by simpa using b), h2 i k v m a (by simpa using b)⟩⟩
   refine ⟨q, ?_, hrq⟩
   unfold Instr.lookup
   refine run_bind' (run_underlying' hu w) ?_
   refine run_bind' (run_getObj_map' (h.z _ _ hZ)) ?_
   exact hq
 ·exact sound_lookup0 h hx hk hr
end
end Go.Lom

/- All quiet operations together: sound. -/
namespace Go.Lom
open Go.RowKit
section
variable {P : Program} {base : Nat -> Prop} {w0 : Start} {Z : ZMap} {φ : PMap} {H : Heap} {nx : Nat} {w : World}
theorem repO_ev (gl : GlobOk Z) {F : Fr} {a : Act} (hF : FrRel Z φ F a.tmps) (x : Option Operand) : RepO Z φ (x.map (ev F)) (x.map a.eval) := by
 cases x with
 | none => trivial
 | some x => exact rep_ev gl hF x
theorem reps_ev (gl : GlobOk Z) {F : Fr} {a : Act} (hF : FrRel Z φ F a.tmps) (xs : Array Operand) : Reps Z φ (xs.toList.map (ev F)) (xs.map a.eval) := by
 refine ⟨by simp, fun i v u h1 h2 => ?_⟩
 rw [List.getElem?_map] at h1
 rw [Array.getElem?_map] at h2
 cases hx : xs[i]? with
 | none => simp [hx] at h2
 | some x =>
  simp [hx] at h1 h2
  subst h1 h2
  exact rep_ev gl hF x
theorem run_val {s : Sem Value} {q : Value} (h : s.run P w = .ok q w) : (do pure (Next.value (<- s)) : Sem Next).run P w = .ok (.value q) w := run_bind' h rfl
theorem sound_nilCheck {x r : AV} {u : Value} (hx : Rep Z φ x u) (hr : anilCheck x = some r) (ρ : Operand -> Value) (o : Operand) (ho : ρ o = u) (d : Option Tmp) (t : TypeId) (p : String) (af : Array Edge) (g : Option (Nat × Bool)) :
  (execOp ρ ⟨d, .nilCheck o, t, p, af, g⟩).run P w = .ok (.value u) w /\ Rep Z φ r u := by
 unfold anilCheck at hr
 split at hr
 ·injection hr with hr; subst hr; cases hx with | ptr hf => exact ⟨by simp only [execOp, ho]; rfl, .ptr hf⟩
 ·injection hr with hr; subst hr; cases hx with | rp us h1 h2 => exact ⟨by simp only [execOp, ho]; rfl, .rp us h1 h2⟩
 ·injection hr with hr; subst hr; cases hx with | iface hv => exact ⟨by simp only [execOp, ho]; rfl, .iface hv⟩
 ·injection hr with hr; subst hr; cases hx with | fn a b c d => exact ⟨by simp only [execOp, ho]; rfl, .fn a b c d⟩
 ·cases hr
theorem run_builtin {ρ : Operand -> Value} {b : Builtin} {args : Array Operand} {ats : Array TypeId} {d : Option Tmp} {t : TypeId} {p : String} {af : Array Edge} {g : Option (Nat × Bool)} {r : Result Next}
  (hb : ∀ consts, (builtin b ats t consts (args.map ρ)).run P w = r) : (execOp ρ ⟨d, .call ⟨.builtin b, args, ats⟩, t, p, af, g⟩).run P w = r := by
 rw [<- hb (args.map fun | .const _ => true | _ => false)]; rfl
theorem sound_qCall (h : HRel base w0 Z φ H nx w) {F : Fr} {a : Act} (hF : FrRel Z φ F a.tmps) {c : Call} {d : Option Tmp} {t : TypeId} {p : String} {af : Array Edge} {g : Option (Nat × Bool)} {r : AV} (hr : aqCall P c F H = some r) :
  ∃ v, (execOp a.eval ⟨d, .call c, t, p, af, g⟩).run P w = .ok (.value v) w /\ Rep Z φ r v := by
 obtain ⟨callee, args, argTypes⟩ := c
 unfold aqCall at hr
 simp only at hr
 have hreps := reps_ev h.gl hF args
 split at hr
 ·split at hr
  ·rename_i x ty hx ht
   have e1 : args = #[x] := by apply Array.ext'; simpa using hx
   have e2 : argTypes = #[ty] := by apply Array.ext'; simpa using ht
   subst e1 e2
   obtain ⟨q, hq, hrq⟩ := sound_len (ty := t) h (rep_ev h.gl hF x) hr
   refine ⟨q, ?_, hrq⟩
   refine run_builtin fun _ => ?_
   rw [show (#[x] : Array Operand).map a.eval = #[a.eval x] from by simp]
   exact run_bind' hq rfl
  ·cases hr
 ·split at hr
  ·rename_i x l hx
   have e1 : args = (x :: l).toArray := by apply Array.ext'; simpa using hx
   subst e1
   obtain ⟨q, hq, hrq⟩ := sound_fold (g := Builtin.min2) (w := w) (P := P) (fun _ _ _ _ _ => sound_min2) (l.map (ev F)) (l.map a.eval) _ _ r (rep_ev h.gl hF x) (by simp) (fun i v u h1 h2 => by
    rw [List.getElem?_map] at h1 h2
    cases hl : l[i]? with
    | none => simp [hl] at h1
    | some y => simp [hl] at h1 h2; subst h1 h2; exact rep_ev h.gl hF y) hr
   refine ⟨q, ?_, hrq⟩
   refine run_builtin fun _ => run_bind' (w' := w) (x := q) ?_ rfl
   unfold Builtin.min_
   simpa using hq
  ·cases hr
 ·split at hr
  ·rename_i x l hx
   have e1 : args = (x :: l).toArray := by apply Array.ext'; simpa using hx
   subst e1
   obtain ⟨q, hq, hrq⟩ := sound_fold (g := Builtin.max2) (w := w) (P := P) (fun _ _ _ _ _ => sound_max2) (l.map (ev F)) (l.map a.eval) _ _ r (rep_ev h.gl hF x) (by simp) (fun i v u h1 h2 => by
    rw [List.getElem?_map] at h1 h2
    cases hl : l[i]? with
    | none => simp [hl] at h1
    | some y => simp [hl] at h1 h2; subst h1 h2; exact rep_ev h.gl hF y) hr
   refine ⟨q, ?_, hrq⟩
   refine run_builtin fun _ => run_bind' (w' := w) (x := q) ?_ rfl
   unfold Builtin.max_
   simpa using hq
  ·cases hr
 ·cases hr
theorem sound_q (h : HRel base w0 Z φ H nx w) {F : Fr} {a : Act} (hF : FrRel Z φ F a.tmps) {o : Oper} {r : AV} (hr : aq P o.op F H = some r) :
  ∃ v, (execOp a.eval o).run P w = .ok (.value v) w /\ Rep Z φ r v := by
 obtain ⟨d, op, t, p, af, g⟩ := o
 simp only at hr
 cases op <;> simp only [aq] at hr <;> try (cases hr; done)
 case move x => injection hr with hr; subst hr; exact ⟨_, rfl, rep_ev h.gl hF _⟩
 case assign x => injection hr with hr; subst hr; exact ⟨_, rfl, rep_ev h.gl hF _⟩
 case pick c x y =>
  simp only [Option.map_eq_some_iff] at hr
  obtain ⟨b, hb, rfl⟩ := hr
  have hc := rep_ev h.gl hF c
  cases hcv : ev F c <;> rw [hcv] at hb hc <;> simp [asB] at hb
  subst hb
  rename_i b
  have hce : a.eval c = .bool b := by generalize a.eval c = u at hc; cases hc; rfl
  refine ⟨if b then a.eval x else a.eval y, ?_, by
   cases b with
   | false => exact rep_ev h.gl hF y
   | true => exact rep_ev h.gl hF x⟩
  simp only [execOp, hce]; rfl
 case load t x => obtain ⟨v, hv, hrv⟩ := sound_load h (rep_ev h.gl hF x) hr; exact ⟨v, run_val hv, hrv⟩
 case nilCheck x => exact ⟨_, sound_nilCheck (rep_ev h.gl hF x) hr _ _ rfl ..⟩
 case binOp op t x y yt => obtain ⟨v, hv, hrv⟩ := sound_bin (w := w) (rep_ev h.gl hF x) (rep_ev h.gl hF y) hr; exact ⟨v, run_val hv, hrv⟩
 case unOp op t x => obtain ⟨v, hv, hrv⟩ := sound_un (P := P) (w := w) (rep_ev h.gl hF x) hr; exact ⟨v, run_val hv, hrv⟩
 case convert s d x => obtain ⟨v, hv, hrv⟩ := sound_conv h (rep_ev h.gl hF x) hr; exact ⟨v, run_val hv, hrv⟩
 case makeInterface t x => obtain ⟨v, hv, hrv⟩ := sound_mkIface (w := w) (rep_ev h.gl hF x) hr; exact ⟨v, run_val hv, hrv⟩
 case makeFunc fn first cap =>
  injection hr with hr; subst hr
  obtain ⟨h1, h2⟩ := reps_ev h.gl hF first
  obtain ⟨h3, h4⟩ := reps_ev h.gl hF cap
  exact ⟨_, run_val (s := Instr.makeFunc fn (first.map a.eval) (cap.map a.eval)) rfl, .fn h1 h3 h2 h4⟩
 case slice t x lo hi mx => obtain ⟨v, hv, hrv⟩ := sound_slice (w := w) (rep_ev h.gl hF x) (repO_ev h.gl hF lo) (repO_ev h.gl hF hi) (repO_ev h.gl hF mx) hr; exact ⟨v, run_val hv, hrv⟩
 case fieldAddr t x f => obtain ⟨v, hv, hrv⟩ := sound_fieldAddr (w := w) (rep_ev h.gl hF x) hr; exact ⟨v, run_val hv, hrv⟩
 case field t x f => obtain ⟨v, hv, hrv⟩ := sound_field (w := w) (rep_ev h.gl hF x) hr; exact ⟨v, run_val hv, hrv⟩
 case indexAddr t x i => obtain ⟨v, hv, hrv⟩ := sound_indexAddr (w := w) (rep_ev h.gl hF x) (rep_ev h.gl hF i) hr; exact ⟨v, run_val hv, hrv⟩
 case index t x i => obtain ⟨v, hv, hrv⟩ := sound_index (w := w) (rep_ev h.gl hF x) (rep_ev h.gl hF i) hr; exact ⟨v, run_val hv, hrv⟩
 case lookup t x k ok => obtain ⟨v, hv, hrv⟩ := sound_lookup h (rep_ev h.gl hF x) (rep_ev h.gl hF k) hr; exact ⟨v, run_val hv, hrv⟩
 case typeAssert x xt t ok => obtain ⟨v, hv, hrv⟩ := sound_typeAssert (xt := xt) (w := w) (rep_ev h.gl hF x) hr; exact ⟨v, run_val hv, hrv⟩
 case extract x i => obtain ⟨v, hv, hrv⟩ := sound_extract (P := P) (w := w) (rep_ev h.gl hF x) hr; exact ⟨v, run_val hv, hrv⟩
 case build t ps =>
  obtain ⟨v, hv, hrv⟩ := sound_build (w := w) (qs := ps.map fun (i, x) => (i, a.eval x)) (by simp) (fun i p q h1 h2 => by
   rw [List.getElem?_map] at h1
   rw [Array.getElem?_map] at h2
   cases hp : ps[i]? with
   | none => simp [hp] at h2
   | some y => simp [hp] at h1 h2; subst h1 h2; exact ⟨rfl, rep_ev h.gl hF _⟩) hr
  exact ⟨v, run_val hv, hrv⟩
 case call c => exact sound_qCall h hF hr
end
end Go.Lom

/- Operations that make or write memory: definitions, and lemmas on blocks. -/
namespace Go.Lom
open Go.RowKit
abbrev Out := AV × Heap × Nat
def chunk (s : Nat) : Nat -> List AV -> List (List AV)
 | 0, _ => []
 | n + 1, cs => cs.take s :: chunk s n (cs.drop s)
theorem chunk_eq (s : Nat) : ∀ (n : Nat) (cs : List AV), chunk s n cs = (List.range n).map fun i => (cs.drop (i * s)).take s
 | 0, _ => rfl
 | n + 1, cs => by
  rw [List.range_succ_eq_map, List.map_cons, List.map_map]
  simp only [chunk, Nat.zero_mul, List.drop_zero]
  rw [chunk_eq s n]
  congr 1
  refine List.map_congr_left fun i _ => ?_
  simp only [Function.comp, List.drop_drop, Nat.succ_mul]
  rw [Nat.add_comm]
def leafSz (P : Program) : Nat -> TypeId -> Option Nat
 | 0, t => szOf P t
 | d + 1, t => match P.underlying t with
  | some (.array _ e) => leafSz P d e
  | _ => szOf P t
def shapeOf (P : Program) (t : TypeId) (cs : List AV) : Nat × List (List AV) :=
 match P.underlying t with
 | some (.array _ e) => match leafSz P 8 e with
  | some s => if cs.length = cs.length / s * s /\ 0 < cs.length /\ rowMin < cs.length then (s, chunk s (cs.length / s) cs) else (cs.length, [cs])
  | none => (cs.length, [cs])
 | _ => (cs.length, [cs])
def zeroRows (P : Program) (t : TypeId) : Option (Nat × List (List AV)) := (zeroCellsOf P t).map (shapeOf P t)
def aalloc (P : Program) (t : TypeId) (H : Heap) (nx : Nat) : Option Out := do
 let r <- zeroRows P t
 some (.ptr nx 0 0, H.set nx (.row r.1 r.2), nx + 1)
def abox (x : AV) (H : Heap) (nx : Nat) : Option Out := do
 let cs <- cellsOf x
 some (.ptr nx 0 0, H.set nx (.row cs.length [cs]), nx + 1)
def sliceElem (P : Program) (t : TypeId) : Option TypeId :=
 match P.underlying t with
 | some (.slice e) => some e
 | _ => none
def aliteral (P : Program) (t : TypeId) (len : Nat) (parts : List (Nat × AV)) : Option (Nat × List (List AV)) := do
 let e <- sliceElem P t
 let s <- szOf P e
 let z <- zeroCellsOf P e
 if z.length = s /\ len * s <= 16777216 then do
  let cs <- afill (fun i => some (i * s, s)) (List.replicate len z).flatten parts
  some (s, chunk s len cs)
 else none
def abuildSlice (P : Program) (t : TypeId) (len : Nat) (parts : List (Nat × AV)) (H : Heap) (nx : Nat) : Option Out := do
 let (s, es) <- aliteral P t len parts
 some (.sl nx s 0 len (some len), H.set nx (.row s es), nx + 1)
def farStore (b i o s n : Nat) (es : List (List AV)) (cs : List AV) (H : Heap) (nx : Nat) : Option Out :=
 match es[i + o / s]? with
 | some e' => if cs.length = n /\ o % s + n <= e'.length then some (.undef, H.set b (.row s (es.set (i + o / s) (spliceF e' (o % s) cs))), nx)
  else if cs.length = n /\ i * s + o + n <= es.length * s then some (.undef, H.set b (.row s (chunk s es.length (spliceF es.flatten (i * s + o) cs))), nx) else none
 | none => if cs.length = n /\ i * s + o + n <= es.length * s then some (.undef, H.set b (.row s (chunk s es.length (spliceF es.flatten (i * s + o) cs))), nx) else none
def astore (P : Program) (t : TypeId) (a v : AV) (H : Heap) (nx : Nat) : Option Out :=
 match a with
 | .ptr b i o => do
  let blk <- H.get b
  let (s, es) <- asRow blk
  let e <- es[i]?
  let cs <- cellsOf v
  let n <- szOf P t
  if cs.length = n /\ o + n <= e.length then some (.undef, H.set b (.row s (es.set i (spliceF e o cs))), nx) else
   farStore b i o s n es cs H nx
 | _ => none
def amakeMap (P : Program) (t : TypeId) (r : Option AV) (H : Heap) (nx : Nat) : Option Out :=
 match r with
 | none => some (.mp nx, H.set nx (.mp []), nx + 1)
 | some v => do
  let _ <- mapT P t
  let _ <- asI v
  some (.mp nx, H.set nx (.mp []), nx + 1)
def bytesOf (P : Program) (t : TypeId) : Option Nat := (P.info? t).map (·.bytes)
def amakeSlice (P : Program) (t : TypeId) (l c : AV) (H : Heap) (nx : Nat) : Option Out := do
 let e <- sliceElem P t
 let s <- szOf P e
 let by_ <- bytesOf P e
 let z <- zeroCellsOf P e
 let l <- asI l
 let c <- asI c
 if z.length = s /\ 0 <= l /\ l <= c /\ (by_ : Int) * c <= 281474976710656 /\ c <= 281474976710656 then
  some (.sl nx s 0 l.toNat (some c.toNat), H.set nx (.row s (List.replicate c.toNat z)), nx + 1)
 else none
def sameK1 : AV -> AV -> Bool
 | .bool a, .bool b => a == b
 | .int j a, .int k b => j == k && a == b
 | .str a, .str b => a == b
 | _, _ => false
def sameK : AV -> AV -> Bool
 | .agg a, .agg b => a.length == b.length && (a.zip b).all fun p => sameK1 p.1 p.2
 | x, y => sameK1 x y
def amapUpdate (P : Program) (t : TypeId) (m k v : AV) (H : Heap) (nx : Nat) : Option Out :=
 match m with
 | .mp b => do
  let (kt, _) <- mapT P t
  let blk <- H.get b
  let es <- asMp blk
  if keyOk P 10000 kt k = false then none else
  let r <- findK P kt k es 0
  match r with
  | some (i, _) => do
   let p <- es[i]?
   if sameK p.1 k then some (.undef, H.set b (.mp (es.set i (k, v))), nx) else none
  | none => some (.undef, H.set b (.mp (es ++ [(k, v)])), nx)
 | _ => none
def asSl : AV -> Option (Nat × Nat × Nat × Nat × Option Nat)
 | .sl b s off len cap => some (b, s, off, len, cap)
 | _ => none
def fitsA (P : Program) (e : TypeId) (s : Nat) (n : Nat) : Option Unit := do
 let s' <- szOf P e
 let by_ <- bytesOf P e
 let z <- zeroCellsOf P e
 if s' = s /\ z.length = s /\ n * by_ <= 140737488355328 /\ n <= maxLen then some () else none
def aappend (P : Program) (t : TypeId) (x y : AV) (H : Heap) (nx : Nat) : Option Out := do
 let e <- sliceElem P t
 let s <- szOf P e
 let news <- elems H y
 if fitsS news s = false then none else
 if news = [] then match x with
  | .nils | .emp | .sl _ _ _ _ _ | .rs _ | .rl _ _ => some (x, H, nx)
  | _ => none
 else match x with
 | .nils | .emp => do
  fitsA P e s news.length
  some (.sl nx s 0 news.length none, H.set nx (.row s news), nx + 1)
 | .sl b s' off len cap => if s' ≠ s then none else do
  let blk <- H.get b
  let (_, es) <- asRow blk
  if es.length < off + len then none else
  match cap with
  | some k =>
   if len + news.length <= k then
    some (.sl b s off (len + news.length) (some k), H.set b (.row s (es.take (off + len) ++ news ++ es.drop (off + len + news.length))), nx)
   else do
    fitsA P e s (len + news.length)
    some (.sl nx s 0 (len + news.length) none, H.set nx (.row s ((es.drop off).take len ++ news)), nx + 1)
  | none => do
   fitsA P e s (len + news.length)
   some (.sl nx s 0 (len + news.length) none, (H.del b).set nx (.row s ((es.drop off).take len ++ news)), nx + 1)
 | _ => none
def acopy (P : Program) (t : TypeId) (x y : AV) (H : Heap) (nx : Nat) : Option Out :=
 match x with
 | .sl b _ off len _ => do
  let e <- sliceElem P t
  let s <- szOf P e
  let news <- elems H y
  let n := Nat.min news.length len
  if n = 0 then some (.int .i64 0, H, nx) else do
  let blk <- H.get b
  let (s2, es) <- asRow blk
  if s2 = s /\ off + len <= es.length /\ fitsS news s = true then
   some (.int .i64 n, H.set b (.row s2 (chunk s2 es.length (spliceF es.flatten (off * s2 + 0) (news.take n).flatten))), nx)
  else none
 | _ => none
def aecall (P : Program) (c : Call) (F : Fr) (H : Heap) (nx : Nat) : Option Out :=
 match c.callee with
 | .builtin .append => match c.args.toList, c.argTypes.toList with
  | [x, y], [t, t'] => if t = t' then aappend P t (ev F x) (ev F y) H nx else none
  | _, _ => none
 | .builtin .copy => match c.args.toList, c.argTypes.toList with
  | [x, y], [t, t'] => if t = t' then acopy P t (ev F x) (ev F y) H nx else none
  | _, _ => none
 | _ => none
def aarrSlice (P : Program) (t : TypeId) (x : AV) (lo hi mx : Option AV) (H : Heap) (nx : Nat) : Option Out :=
 match P.underlying t, x with
 | some (.array n e), .ptr b 0 0 => if mx.isSome then none else do
  let s <- szOf P e
  let h <- bnd hi n n
  let l <- bnd lo 0 h
  match H.get b with
  | some (.row s' es) => if es.length = n /\ s' = s then some (.sl b s l (h - l) (some (n - l)), H, nx) else match es with
   | [cs] => if cs.length = n * s then some (.rs (((chunk s n cs).take h).drop l), H.del b, nx) else none
   | _ => none
  | _ => none
 | _, _ => none
def bytesL (s : List UInt8) : List (List AV) := s.map fun b => [.int .u8 b.toNat]
def astrBytes (P : Program) (src dst : TypeId) (x : AV) (H : Heap) (nx : Nat) : Option Out :=
 match P.underlying src, P.underlying dst, x with
 | some .string, some (.slice e), .str s => match P.underlying e with
  | some (.int .u8) => some (.sl nx 1 0 s.length none, H.set nx (.row 1 (bytesL s)), nx + 1)
  | _ => none
 | _, _, _ => none
def ae (P : Program) (op : Op) (F : Fr) (H : Heap) (nx : Nat) : Option Out :=
 match op with
 | .alloc t => aalloc P t H nx
 | .box _ x => abox (ev F x) H nx
 | .buildSlice t len ps => abuildSlice P t len (ps.toList.map fun p => (p.1, ev F p.2)) H nx
 | .store t a v => astore P t (ev F a) (ev F v) H nx
 | .convert s d x => astrBytes P s d (ev F x) H nx
 | .makeMap t r => amakeMap P t (r.map (ev F)) H nx
 | .makeSlice t l c => amakeSlice P t (ev F l) (ev F c) H nx
 | .mapUpdate t m k v | .insert t m k v => amapUpdate P t (ev F m) (ev F k) (ev F v) H nx
 | .call c => aecall P c F H nx
 | .slice t x lo hi mx => aarrSlice P t (ev F x) (lo.map (ev F)) (hi.map (ev F)) (mx.map (ev F)) H nx
 | _ => none
section
variable {P : Program} {base : Nat -> Prop} {w0 : Start} {Z : ZMap} {φ : PMap} {H : Heap} {nx : Nat} {w : World}
theorem foldSet_size : ∀ (us : List Value) (c : Array Value) (o : Nat), (foldSet c o us).size = c.size
 | [], _, _ => rfl
 | u :: us, c, o => by simp only [foldSet]; rw [foldSet_size us]; simp
theorem foldSet_get : ∀ (us : List Value) (c : Array Value) (o x : Nat), (foldSet c o us)[x]? = if o <= x /\ x < o + us.length /\ x < c.size then us[x - o]? else c[x]?
 | [], c, o, x => by simp only [foldSet, List.length_nil]; rw [if_neg (by omega)]
 | u :: us, c, o, x => by
  simp only [foldSet]
  rw [foldSet_get us]
  simp only [Array.size_setIfInBounds, List.length_cons, Array.getElem?_setIfInBounds]
  by_cases h1 : o = x
  ·subst h1
   rw [if_neg (by omega), if_pos rfl]
   by_cases h2 : o < c.size
   ·rw [if_pos h2, if_pos (by omega)]; simp
   ·rw [if_neg h2, if_neg (by omega)]; rw [Array.getElem?_eq_none (by omega)]
  ·rw [if_neg h1]
   by_cases h2 : o + 1 <= x /\ x < o + 1 + us.length /\ x < c.size
   ·rw [if_pos h2, if_pos (by omega)]
    have : x - o = (x - (o + 1)) + 1 := by omega
    rw [this, List.getElem?_cons_succ]
   ·rw [if_neg h2, if_neg (by omega)]
theorem setCell_block {B o : Nat} {c : Array Value} {T : TypeId} {fz : Nat × Nat} (h : w.heap[B]? = some (.cells c T fz)) (u : Value) :
  (w.setCell ⟨B, o, none⟩ u).heap[B]? = some (.cells (c.setIfInBounds o u) T fz) := by
 simp only [World.setCell, Array.getElem?_modify, if_true, h]; rfl
theorem setCells_block : ∀ (us : List Value) (w : World) (B o : Nat) (c : Array Value) (T : TypeId) (fz : Nat × Nat), w.heap[B]? = some (.cells c T fz) -> (w.setCells B o us).heap[B]? = some (.cells (foldSet c o us) T fz)
 | [], _, _, _, _, _, _, h => h
 | u :: us, w, B, o, c, T, fz, h => by
  simp only [World.setCells, foldSet]
  exact setCells_block us _ B (o + 1) _ T fz (setCell_block h u)
theorem setCells_other : ∀ (us : List Value) (w : World) (B o k : Nat), k ≠ B -> (w.setCells B o us).heap[k]? = w.heap[k]?
 | [], _, _, _, _, _ => rfl
 | u :: us, w, B, o, k, h => by
  simp only [World.setCells]
  rw [setCells_other us _ B (o + 1) k h]
  exact Below.heap_setCell w ⟨B, o, none⟩ u k h
theorem setCells_rest : ∀ (us : List Value) (w : World) (B o : Nat), (w.setCells B o us).os = w.os /\ (w.setCells B o us).tape = w.tape /\ (w.setCells B o us).output = w.output /\ (w.setCells B o us).heap.size = w.heap.size
 | [], _, _, _ => ⟨rfl, rfl, rfl, rfl⟩
 | u :: us, w, B, o => by
  simp only [World.setCells]
  obtain ⟨a, b, c, d⟩ := setCells_rest us (w.setCell ⟨B, o, none⟩ u) B (o + 1)
  exact ⟨a, b, c, d.trans (by simp [World.setCell])⟩
theorem HRel.run_write (h : HRel base w0 Z φ H nx w) {b s : Nat} {blk : Blk} {es : List (List AV)} {l : Loc} (hb : H.get b = some blk) (hrow : asRow blk = some (s, es)) (hf : φ b = some l) {o : Nat} {us : List Value} (h1 : ∀ u ∈ us, u.oneCell' = true)
  (hlo : l.ob <= o) (hhi : o + us.length <= l.ob + l.lim * l.s) :
  (storeCells ⟨l.B, o, none⟩ us).run P w = .ok () (w.setCells l.B o us) := by
 obtain ⟨hz, hs, hlim, c, T, fz, hw, hsz, hfz, he⟩ := h.rowOf hb hrow hf
 refine run_storeCells_cells l.B o us 0 w (fun j hj => ?_) (fun j hj => ?_) h1
 ·simp only [World.cell?, hw]
  have : o + j < c.size := by omega
  simp [this]
 ·simp only [World.frozen?, hw]
  have := hfz (o + 0 + j) (by omega)
  simpa using this
theorem HRel.adopt (h : HRel base w0 Z φ H nx w) {b c : Nat} (hc : nx <= c) {x x' : Blk} {l l' : Loc} (hb : H.get b = some x) (hf : φ b = some l) {w' : World} (hl : l'.B = l.B)
  (hos : w'.os = w.os) (htp : w'.tape = w.tape) (hout : w'.output = w.output) (hsz : w.heap.size <= w'.heap.size) (hbl : ∀ k, k ≠ l.B -> k < w.heap.size -> w'.heap[k]? = w.heap[k]?)
  (hx : blkRel Z (φ.set c l') w' l' x') : HRel base w0 Z (φ.set c l') ((H.del b).set c x') (c + 1) w' := by
 obtain ⟨hz, hr⟩ := h.ownAt hb hf
 have hfr := h.fresh hc
 have hle := PMap.le_set (x := l') hfr
 have hcb : c ≠ b := by have := h.fnx b l hf; omega
 have gd : ∀ d y, (H.del b).get d = some y -> d ≠ b /\ H.get d = some y := fun d y hd => by
  rw [Heap.get_del] at hd
  by_cases e : d = b
  ·rw [if_pos e] at hd; cases hd
  ·rw [if_neg e] at hd; exact ⟨e, hd⟩
 refine ⟨h.kept hb hf hos htp hout hsz hbl, fun C o hC => ?_, h.z0, h.gl, fun d y hy => ?_, fun d y hy => ?_, fun d ld hd => ?_, fun d y hy => ?_, ?_, ?_⟩
 ·rw [hbl C (fun e => by subst e; rw [hz] at hC; cases hC) (by
   rcases Nat.lt_or_ge C w.heap.size with hlt | hge
   ·exact hlt
   ·have := h.z C o hC; rw [Array.getElem?_eq_none hge] at this; cases this)]
  exact h.z C o hC
 ·unfold PMap.set at hy
  by_cases e : d = c
  ·omega
  ·rw [if_neg e] at hy; have := h.fnx d y hy; omega
 ·rw [Heap.get_set] at hy
  by_cases e : d = c
  ·omega
  ·rw [if_neg e] at hy; have := h.hnx d y (gd d y hy).2; omega
 ·unfold PMap.set at hd
  by_cases e : d = c
  ·rw [if_pos e] at hd; injection hd with hd; subst hd; have := h.flt b l hf; omega
  ·rw [if_neg e] at hd; have := h.flt d ld hd; omega
 ·rw [Heap.get_set] at hy
  by_cases e : d = c
  ·rw [if_pos e] at hy; injection hy with hy; subst hy; subst e
   exact .inr ⟨l', PMap.set_self _ _ _, by rw [hl]; exact hz, hx⟩
  ·rw [if_neg e] at hy
   obtain ⟨hne, hy⟩ := gd d y hy
   rcases h.own' d y hy with ⟨hgh, hfd⟩ | ⟨ld, hfd, hzd, hrd⟩
   ·exact .inl ⟨hgh, by unfold PMap.set; rw [if_neg e]; exact hfd⟩
   exact .inr ⟨ld, hle _ _ hfd, hzd, hrd.mono (ZLe.refl _) hle (hbl ld.B (h.inj d b y x ld l hne hy hb hfd hf) (h.flt _ _ hfd))⟩
 ·intro d d' y y' l1 l2 hne hy hy' hd hd'
  rw [Heap.get_set] at hy hy'
  unfold PMap.set at hd hd'
  by_cases e : d = c
  ·rw [if_pos e] at hd; injection hd with hd; subst hd
   by_cases e' : d' = c
   ·omega
   ·rw [if_neg e'] at hd' hy'
    obtain ⟨hne', hy'⟩ := gd d' y' hy'
    rw [hl]
    exact fun e3 => h.inj d' b y' x l2 l hne' hy' hb hd' hf e3.symm
  ·rw [if_neg e] at hd hy
   obtain ⟨hne1, hy⟩ := gd d y hy
   by_cases e' : d' = c
   ·rw [if_pos e'] at hd'; injection hd' with hd'; subst hd'
    rw [hl]
    exact h.inj d b y x l1 l hne1 hy hb hd hf
   ·rw [if_neg e'] at hd' hy'
    obtain ⟨_, hy'⟩ := gd d' y' hy'
    exact h.inj d d' y y' l1 l2 hne hy hy' hd hd'
 ·intro d y l1 hy hd hu
  rw [Heap.get_set] at hy
  unfold PMap.set at hd
  by_cases e : d = c
  ·rw [if_pos e] at hd; injection hd with hd; subst hd; rw [hl] at hu ⊢; exact h.ob b x l hb hf hu
  ·rw [if_neg e] at hd hy
   obtain ⟨_, hy⟩ := gd d y hy
   exact h.ob d y l1 hy hd hu
end
end Go.Lom

/- Operations that make or write memory: sound. -/
namespace Go.Lom
open Go.RowKit
section
variable {P : Program} {base : Nat -> Prop} {w0 : Start} {Z : ZMap} {φ : PMap} {H : Heap} {nx : Nat} {w : World}
def OutOk (base : Nat -> Prop) (w0 : Start) (Z : ZMap) (φ : PMap) (r : AV) (H' : Heap) (nx' : Nat) (x : Result Next) : Prop :=
 ∃ n w' Z' φ', x = .ok n w' /\ ((∃ v, n = .value v /\ Rep Z' φ' r v) \/ (n = .skip /\ r = .undef)) /\ ZLe Z Z' /\ PLe φ φ' /\ HRel base w0 Z' φ' H' nx' w'
def ValOk (base : Nat -> Prop) (w0 : Start) (Z : ZMap) (φ : PMap) (r : AV) (H' : Heap) (nx' : Nat) (x : Result Value) : Prop :=
 ∃ v w' Z' φ', x = .ok v w' /\ Rep Z' φ' r v /\ ZLe Z Z' /\ PLe φ φ' /\ HRel base w0 Z' φ' H' nx' w'
theorem ValOk.out {r : AV} {H' : Heap} {nx' : Nat} {s : Sem Value} (h : ValOk base w0 Z φ r H' nx' (s.run P w)) : OutOk base w0 Z φ r H' nx' ((do pure (Next.value (<- s)) : Sem Next).run P w) := by
 obtain ⟨v, w', Z', φ', hv, hr, a, b, c⟩ := h
 exact ⟨.value v, w', Z', φ', run_bind' hv rfl, .inl ⟨v, rfl, hr⟩, a, b, c⟩
theorem row_new (hh : HRel base w0 Z φ H nx w) {e : TypeId} {s : Nat} {es : List (List AV)} {c : Array Value} {lim : Nat} {fz : Nat × Nat} (hlim : es.length <= lim) (hsz : lim * s <= c.size) (hfz : ∀ x, x < c.size -> ¬ (fz.1 <= x /\ x < fz.2))
  (hes : ∀ (i : Nat) (el : List AV), es[i]? = some el -> el.length = s /\ el.all oneC = true /\ ∀ (j : Nat) (v : AV), el[j]? = some v -> ∃ u, c[i * s + j]? = some u /\ Rep Z φ v u) :
  HRel base w0 Z (φ.set nx ⟨w.heap.size, 0, s, lim⟩) (H.set nx (.row s es)) (nx + 1) (w.alloc (.cells c e fz)) := by
 refine hh.alloc (Nat.le_refl _) rfl ⟨rfl, hlim, c, e, fz, heap_new w _, by simpa using hsz, hfz, fun i el hi => ⟨(hes i el hi).1, (hes i el hi).2.1, fun j v hj => ?_⟩⟩
 obtain ⟨u, hu, hr⟩ := (hes i el hi).2.2 j v hj
 exact ⟨u, by simpa using hu, hr.mono (ZLe.refl _) (PMap.le_set (hh.fresh (Nat.le_refl _)))⟩
theorem sound_var (hh : HRel base w0 Z φ H nx w) {t : TypeId} {x : AV} {u : Value} {cs : List AV} (hx : Rep Z φ x u) (hc : cellsOf x = some cs) :
  ∃ p, (newVar t u).run P w = .ok p (w.alloc (.cells u.cells t)) /\ Rep Z (φ.set nx ⟨w.heap.size, 0, cs.length, 1⟩) (.ptr nx 0 0) (.pointer (some p)) /\
   HRel base w0 Z (φ.set nx ⟨w.heap.size, 0, cs.length, 1⟩) (H.set nx (.row cs.length [cs])) (nx + 1) (w.alloc (.cells u.cells t)) := by
 obtain ⟨hr, h1⟩ := rep_cells hc hx
 refine ⟨_, rfl, ?_, row_new hh (by simp) (by rw [hr.1]; omega) (fun x _ => by simp) fun i el hi => ?_⟩
 ·have := Rep.ptr (Z := Z) (φ := φ.set nx ⟨w.heap.size, 0, cs.length, 1⟩) (b := nx) (i := 0) (o := 0) (PMap.set_self _ _ _)
  simpa using this
 ·match i with
  | 0 =>
   simp at hi; subst hi
   refine ⟨rfl, h1, fun j v hj => ?_⟩
   have hlt : j < u.cells.size := by have := (List.getElem?_eq_some_iff.1 hj).1; have := hr.1; omega
   exact ⟨u.cells[j], by simp [hlt], hr.2 j v _ hj (Array.getElem?_eq_getElem hlt)⟩
  | i + 1 => simp at hi
theorem chunk_get {s n : Nat} {cs : List AV} (hl : cs.length = n * s) {i : Nat} {e : List AV} (h : (chunk s n cs)[i]? = some e) : i < n /\ e.length = s /\ ∀ j, j < s -> e[j]? = cs[i * s + j]? := by
 rw [chunk_eq] at h
 have hi : i < n := by have := (List.getElem?_eq_some_iff.1 h).1; simpa using this
 simp [hi] at h
 subst h
 have h2 : i * s + s <= n * s := by have : (i + 1) * s <= n * s := Nat.mul_le_mul_right _ hi; rwa [Nat.add_mul, Nat.one_mul] at this
 refine ⟨hi, by simp; omega, fun j hj => ?_⟩
 rw [List.getElem?_take, if_pos hj, List.getElem?_drop]
theorem shapeOf_spec {t : TypeId} {cs : List AV} : (shapeOf P t cs).2.length * (shapeOf P t cs).1 = cs.length /\ ∀ i e, (shapeOf P t cs).2[i]? = some e -> e.length = (shapeOf P t cs).1 /\ ∀ j v, e[j]? = some v -> cs[i * (shapeOf P t cs).1 + j]? = some v := by
 have flat : ([cs] : List (List AV)).length * cs.length = cs.length /\ ∀ i e, ([cs] : List (List AV))[i]? = some e -> e.length = cs.length /\ ∀ j v, e[j]? = some v -> cs[i * cs.length + j]? = some v := by
  refine ⟨by simp, fun i e h => ?_⟩
  match i with
  | 0 => simp at h; subst h; exact ⟨rfl, fun j v hj => by simpa using hj⟩
  | i + 1 => simp at h
 unfold shapeOf
 split
 ·split
  ·split
   ·rename_i s _ hc
    refine ⟨by simp only [chunk_eq, List.length_map, List.length_range]; exact hc.1.symm, fun i el h => ?_⟩
    obtain ⟨h1, h2, h3⟩ := chunk_get hc.1 h
    refine ⟨h2, fun j v hj => ?_⟩
    have hlt : j < s := by have := (List.getElem?_eq_some_iff.1 hj).1; omega
    rw [<- h3 j hlt]; exact hj
   ·exact flat
  ·exact flat
 ·exact flat
theorem run_zeroRow {t : TypeId} {r : Nat × List (List AV)} (hz : zeroRows P t = some r) : ∃ ob, (Instr.alloc t true (.tuple #[])).run P w = .ok (.pointer (some ⟨w.heap.size, 0, none⟩)) (w.alloc ob) /\ blkRel Z φ (w.alloc ob) ⟨w.heap.size, 0, r.1, r.2.length⟩ (.row r.1 r.2) := by
 unfold zeroRows zeroCellsOf at hz
 simp only [Option.map_eq_some_iff, Option.bind_eq_some_iff] at hz
 obtain ⟨cs, ⟨z, hz, hcs⟩, rfl⟩ := hz
 obtain ⟨u, hu, hru⟩ := run_zeroValue (Z := Z) (φ := φ) hz w
 obtain ⟨hr, h1⟩ := rep_cells hcs hru
 obtain ⟨hs1, hs2⟩ := shapeOf_spec (P := P) (t := t) (cs := cs)
 have hrun : (newVar t u).run P w = .ok (⟨w.heap.size, 0, none⟩ : Addr) (w.alloc (.cells u.cells t)) := rfl
 refine ⟨_, run_bind' hu (run_bind' hrun rfl), ⟨rfl, Nat.le_refl _, u.cells, t, (0, 0), heap_new w _, by simp only; rw [hs1, hr.1]; omega, fun x _ => by simp, fun i el hi => ?_⟩⟩
 obtain ⟨g1, g2⟩ := hs2 i el hi
 refine ⟨g1, List.all_eq_true.2 fun v hv => ?_, fun j v hj => ?_⟩
 ·obtain ⟨j, hj⟩ := List.mem_iff_getElem?.1 hv
  exact List.all_eq_true.1 h1 v (List.mem_of_getElem? (g2 j v hj))
 ·have h3 := g2 j v hj
  have hlt : i * (shapeOf P t cs).1 + j < u.cells.size := by have := (List.getElem?_eq_some_iff.1 h3).1; have := hr.1; omega
  exact ⟨u.cells[i * (shapeOf P t cs).1 + j], by simp [hlt], hr.2 _ v _ h3 (Array.getElem?_eq_getElem hlt)⟩
theorem sound_alloc (hh : HRel base w0 Z φ H nx w) {t : TypeId} {r : AV} {H' : Heap} {nx' : Nat} (hr : aalloc P t H nx = some (r, H', nx')) :
  ValOk base w0 Z φ r H' nx' ((Instr.alloc t true (.tuple #[])).run P w) := by
 unfold aalloc at hr
 simp only [Option.bind_eq_bind, Option.bind_eq_some_iff, Option.some.injEq, Prod.mk.injEq] at hr
 obtain ⟨q, hq, rfl, rfl, rfl⟩ := hr
 obtain ⟨ob, hrun, hrel⟩ := run_zeroRow (Z := Z) (φ := φ) (w := w) hq
 have hle := PMap.le_set (x := (⟨w.heap.size, 0, q.1, q.2.length⟩ : Loc)) (hh.fresh (Nat.le_refl _))
 refine ⟨_, _, Z, _, hrun, ?_, ZLe.refl _, hle, hh.alloc (Nat.le_refl _) rfl (hrel.mono (ZLe.refl _) hle rfl)⟩
 have := Rep.ptr (Z := Z) (φ := φ.set nx ⟨w.heap.size, 0, q.1, q.2.length⟩) (b := nx) (i := 0) (o := 0) (PMap.set_self _ _ _)
 simpa using this
theorem sound_box (hh : HRel base w0 Z φ H nx w) {t : TypeId} {x r : AV} {u : Value} {H' : Heap} {nx' : Nat} (hx : Rep Z φ x u) (hr : abox x H nx = some (r, H', nx')) :
  ValOk base w0 Z φ r H' nx' ((Instr.box t u).run P w) := by
 unfold abox at hr
 simp only [Option.bind_eq_bind, Option.bind_eq_some_iff, Option.some.injEq, Prod.mk.injEq] at hr
 obtain ⟨cs, hcs, rfl, rfl, rfl⟩ := hr
 obtain ⟨p, hp, hrp, hh'⟩ := sound_var (P := P) (t := t) hh hx hcs
 exact ⟨.pointer (some p), _, Z, _, run_bind' hp rfl, hrp, ZLe.refl _, PMap.le_set (hh.fresh (Nat.le_refl _)), hh'⟩
theorem sliceElem_some {t e : TypeId} (h : sliceElem P t = some e) : P.underlying t = some (.slice e) := by
 unfold sliceElem at h
 split at h
 ·rename_i h2; injection h with h; subst h; exact h2
 ·cases h
theorem flatten_replicate_get (z : List AV) : ∀ (n i : Nat), i < n * z.length -> (List.replicate n z).flatten[i]? = z[i % z.length]?
 | 0, i, h => by omega
 | n + 1, i, h => by
  simp only [List.replicate_succ, List.flatten_cons]
  by_cases hi : i < z.length
  ·rw [List.getElem?_append_left hi, Nat.mod_eq_of_lt hi]
  ·rw [List.getElem?_append_right (by omega), flatten_replicate_get z n (i - z.length) (by rw [Nat.add_mul] at h; omega)]
   rw [Nat.mod_eq_sub_mod (a := i) (by omega)]
theorem reps_zeros {z : List AV} {zu : Array Value} (hz : Reps Z φ z zu) (n : Nat) : Reps Z φ (List.replicate n z).flatten ((Array.range (n * z.length)).map (fun i => zu[i % zu.size]!)) := by
 have hl : (List.replicate n z).flatten.length = n * z.length := by simp
 refine ⟨by simp, fun i v u hi hu => ?_⟩
 have hlt : i < n * z.length := by have := (List.getElem?_eq_some_iff.1 hi).1; omega
 have hz0 : 0 < z.length := by
  rcases Nat.eq_zero_or_pos z.length with h | h
  ·rw [h] at hlt; omega
  ·exact h
 rw [flatten_replicate_get z n i hlt] at hi
 have hm : i % z.length < zu.size := by rw [hz.1]; exact Nat.mod_lt _ hz0
 simp [hlt] at hu
 subst hu
 refine hz.2 _ v _ hi ?_
 rw [hz.1]
 rw [getElem!_pos zu _ hm]
 exact Array.getElem?_eq_getElem hm
theorem afill_length : ∀ (ps : List (Nat × AV)) (pl : Nat -> Option (Nat × Nat)) (e r : List AV), afill pl e ps = some r -> r.length = e.length
 | [], _, _, _, h => by simp only [afill, Option.some.injEq] at h; subst h; rfl
 | (i, v) :: ps, pl, e, r, h => by
  simp only [afill, Option.bind_eq_bind, Option.bind_eq_some_iff] at h
  obtain ⟨⟨off, size⟩, _, cs, _, h⟩ := h
  rw [spliceF_eq] at h
  split at h
  ·rw [afill_length ps pl _ r h, splice_length]
  ·cases h
theorem all_splice : ∀ (cs e : List AV) (o : Nat), e.all oneC = true -> cs.all oneC = true -> (splice e o cs).all oneC = true
 | [], _, _, h, _ => h
 | v :: cs, e, o, h, h2 => by
  simp only [splice]
  simp only [List.all_cons, Bool.and_eq_true] at h2
  refine all_splice cs _ _ ?_ h2.2
  rw [List.all_eq_true] at h ⊢
  intro x hx
  rcases List.mem_or_eq_of_mem_set hx with h3 | h3
  ·exact h x h3
  ·subst h3; exact h2.1
theorem cellsOf_all {x : AV} {cs : List AV} (h : cellsOf x = some cs) : cs.all oneC = true := by
 unfold cellsOf at h
 split at h
 ·split at h
  ·rename_i ha; injection h with h; subst h; exact ha
  ·cases h
 ·rename_i t xs; injection h with h; subst h; exact flatMap_all t.enc_oneC xs
 ·split at h
  ·rename_i ha; injection h with h; subst h; simp [ha]
  ·cases h
theorem afill_all : ∀ (ps : List (Nat × AV)) (pl : Nat -> Option (Nat × Nat)) (e r : List AV), e.all oneC = true -> afill pl e ps = some r -> r.all oneC = true
 | [], _, _, _, h0, h => by simp only [afill, Option.some.injEq] at h; subst h; exact h0
 | (i, v) :: ps, pl, e, r, h0, h => by
  simp only [afill, Option.bind_eq_bind, Option.bind_eq_some_iff] at h
  obtain ⟨⟨off, size⟩, _, cs, hcs, h⟩ := h
  rw [spliceF_eq] at h
  split at h
  ·exact afill_all ps pl _ r (all_splice _ _ _ h0 (cellsOf_all hcs)) h
  ·cases h
theorem run_literal {t : TypeId} {len : Nat} {ps : List (Nat × AV)} {qs : Array (Nat × Value)} {s : Nat} {es : List (List AV)} (hl : qs.size = ps.length)
  (hp : ∀ (i : Nat) (p : Nat × AV) (q : Nat × Value), ps[i]? = some p -> qs[i]? = some q -> p.1 = q.1 /\ Rep Z φ p.2 q.2) (hr : aliteral P t len ps = some (s, es)) :
  es.length = len /\ ∃ c e, (Instr.buildSlice t len qs).run P w = .ok (.slice (some ⟨w.heap.size, 0, none⟩) len len) (w.alloc (.cells c e)) /\ c.size = len * s /\
   ∀ (i : Nat) (el : List AV), es[i]? = some el -> el.length = s /\ el.all oneC = true /\ ∀ (j : Nat) (v : AV), el[j]? = some v -> ∃ u, c[i * s + j]? = some u /\ Rep Z φ v u := by
 unfold aliteral at hr
 simp only [Option.bind_eq_bind, Option.bind_eq_some_iff] at hr
 obtain ⟨e, he, s', hs, z, hz, hr⟩ := hr
 split at hr
 ·rename_i hh
  obtain ⟨hzl, hsmall⟩ := hh
  simp only [Option.bind_eq_some_iff, Option.some.injEq, Prod.mk.injEq] at hr
  obtain ⟨cs, hcs, rfl, rfl⟩ := hr
  unfold zeroCellsOf at hz
  simp only [Option.bind_eq_some_iff] at hz
  obtain ⟨z0, hz0, hz⟩ := hz
  obtain ⟨zu, hzu, hzr⟩ := run_zeroValue (Z := Z) (φ := φ) hz0 w
  obtain ⟨hzc, hz1⟩ := rep_cells hz hzr
  have hu := sliceElem_some he
  have hzeros : Reps Z φ (List.replicate len z).flatten ((Array.range (len * s')).map (fun i => (if len * s' = 0 then #[] else zu.cells)[i % (if len * s' = 0 then #[] else zu.cells).size]!)) := by
   by_cases h0 : len * s' = 0
   ·have : (List.replicate len z).flatten = [] := List.eq_nil_of_length_eq_zero (by simp [hzl]; exact h0)
    rw [this, h0]
    exact ⟨by simp, fun i v u a => by simp at a⟩
   ·rw [if_neg h0, <- hzl]
    exact reps_zeros hzc len
  obtain ⟨c, hc, hrc⟩ := sound_fill ps qs.toList _ cs _ hzeros (by simpa using hl) (fun i p q a b => hp i p q a (by simpa using b)) hcs
  have hcl : cs.length = len * s' := by rw [afill_length _ _ _ _ hcs]; simp [hzl]
  have hall : cs.all oneC = true := by
   refine afill_all _ _ _ _ ?_ hcs
   rw [List.all_eq_true]
   intro x hx
   simp only [List.mem_flatten, List.mem_replicate] at hx
   obtain ⟨y, ⟨_, rfl⟩, hxy⟩ := hx
   exact List.all_eq_true.1 hz1 x hxy
  refine ⟨by simp [chunk_eq], c, e, ?_, by rw [hrc.1, hcl], fun i el hi => ?_⟩
  ·unfold Instr.buildSlice
   refine run_bind' (run_underlying' hu w) (run_bind' (run_szOf hs w) ?_)
   simp only
   rw [if_neg (by omega)]
   have hzero : (if len * s' = 0 then pure #[] else do pure (<- zeroValue e).cells : Sem (Array Value)).run P w = .ok (if len * s' = 0 then #[] else zu.cells) w := by
    by_cases h0 : len * s' = 0
    ·rw [if_pos h0, if_pos h0]; rfl
    ·rw [if_neg h0, if_neg h0]; exact run_bind' hzu rfl
   by_cases h0 : len * s' = 0
   ·rw [if_pos h0] at hc
    rw [if_pos h0]
    refine run_bind' (x := (#[] : Array Value)) (w' := w) rfl ?_
    rw [hc]; rfl
   ·rw [if_neg h0] at hc
    rw [if_neg h0]
    refine run_bind' hzu ?_
    refine run_bind' (x := zu.cells) (w' := w) rfl ?_
    rw [hc]; rfl
  ·obtain ⟨hi1, hi2, hi3⟩ := chunk_get hcl hi
   refine ⟨hi2, ?_, fun j v hj => ?_⟩
   ·rw [List.all_eq_true]
    intro x hx
    obtain ⟨j, hjlt, hj⟩ := List.mem_iff_getElem.1 hx
    have : cs[i * s' + j]? = some x := by rw [<- hi3 j (by omega), List.getElem?_eq_getElem hjlt, hj]
    exact List.all_eq_true.1 hall x (List.mem_of_getElem? this)
   ·have hjl : j < s' := by have := (List.getElem?_eq_some_iff.1 hj).1; omega
    rw [hi3 j hjl] at hj
    have hlt : i * s' + j < c.size := by have := (List.getElem?_eq_some_iff.1 hj).1; rw [hrc.1]; omega
    exact ⟨c[i * s' + j], Array.getElem?_eq_getElem hlt, hrc.2 _ v _ hj (Array.getElem?_eq_getElem hlt)⟩
 ·cases hr
theorem sound_buildSlice (hh : HRel base w0 Z φ H nx w) {t : TypeId} {len : Nat} {ps : List (Nat × AV)} {qs : Array (Nat × Value)} {r : AV} {H' : Heap} {nx' : Nat} (hl : qs.size = ps.length)
  (hp : ∀ (i : Nat) (p : Nat × AV) (q : Nat × Value), ps[i]? = some p -> qs[i]? = some q -> p.1 = q.1 /\ Rep Z φ p.2 q.2) (hr : abuildSlice P t len ps H nx = some (r, H', nx')) :
  ValOk base w0 Z φ r H' nx' ((Instr.buildSlice t len qs).run P w) := by
 unfold abuildSlice at hr
 simp only [Option.bind_eq_bind, Option.bind_eq_some_iff, Option.some.injEq, Prod.mk.injEq] at hr
 obtain ⟨⟨s, es⟩, hlit, rfl, rfl, rfl⟩ := hr
 obtain ⟨hlen, c, e, hrun, hsz, hes⟩ := run_literal (w := w) hl hp hlit
 refine ⟨_, _, Z, _, hrun, ?_, ZLe.refl _, PMap.le_set (hh.fresh (Nat.le_refl _)), row_new (lim := len) hh (Nat.le_of_eq hlen) (Nat.le_of_eq hsz.symm) (fun x _ => by simp) hes⟩
 exact .sl (PMap.set_self _ _ _) rfl rfl (Nat.le_refl _) (by simp) (.inl (by simp))
end
end Go.Lom

/- Stores, maps, made slices, append: sound. -/
namespace Go.Lom
open Go.RowKit
section
variable {P : Program} {base : Nat -> Prop} {w0 : Start} {Z : ZMap} {φ : PMap} {H : Heap} {nx : Nat} {w : World}
theorem row_store (hh : HRel base w0 Z φ H nx w) {b i o : Nat} {s : Nat} {blk : Blk} {es : List (List AV)} {e cs : List AV} {us : List Value} {l : Loc} (hb : H.get b = some blk) (hrow : asRow blk = some (s, es)) (hf : φ b = some l) (hi : es[i]? = some e)
  (hl : us.length = cs.length) (h1 : ∀ u ∈ us, u.oneCell' = true) (hall : cs.all oneC = true) (hr : ∀ (j : Nat) (v : AV) (u : Value), cs[j]? = some v -> us[j]? = some u -> Rep Z φ v u) (ho : o + cs.length <= e.length) :
  (storeCells ⟨l.B, l.ob + i * l.s + o, none⟩ us).run P w = .ok () (w.setCells l.B (l.ob + i * l.s + o) us) /\
  HRel base w0 Z φ (H.set b (.row s (es.set i (splice e o cs)))) nx (w.setCells l.B (l.ob + i * l.s + o) us) := by
 obtain ⟨hz, hs, hlim, c, T, fz, hw, hsz, hfz, he⟩ := hh.rowOf hb hrow hf
 obtain ⟨hel, heall, hec⟩ := he i e hi
 have hil : i < es.length := (List.getElem?_eq_some_iff.1 hi).1
 have hin : (i + 1) * l.s <= l.lim * l.s := Nat.mul_le_mul_right _ (by omega)
 rw [Nat.add_mul, Nat.one_mul] at hin
 obtain ⟨q1, q2, q3, q4⟩ := setCells_rest us w l.B (l.ob + i * l.s + o)
 refine ⟨hh.run_write hb hrow hf h1 (by omega) (by omega), hh.upd hb hf q1 q2 q3 (by omega) (fun k hk _ => setCells_other us w _ _ k hk) ?_⟩
 refine ⟨hs, by simpa using hlim, _, T, fz, setCells_block us w _ _ c T fz hw, by rw [foldSet_size]; exact hsz, by rw [foldSet_size]; exact hfz, fun k el hk => ?_⟩
 rw [List.getElem?_set] at hk
 by_cases hik : i = k
 ·subst hik
  rw [if_pos rfl, if_pos hil] at hk
  injection hk with hk; subst hk
  refine ⟨by rw [splice_length]; exact hel, all_splice _ _ _ heall hall, fun j v hj => ?_⟩
  rw [splice_get] at hj
  rw [foldSet_get]
  by_cases hjo : o <= j /\ j < o + cs.length /\ j < e.length
  ·rw [if_pos hjo] at hj
   rw [if_pos (by omega)]
   have : l.ob + i * l.s + j - (l.ob + i * l.s + o) = j - o := by omega
   rw [this]
   have hlt : j - o < us.length := by omega
   exact ⟨us[j - o], List.getElem?_eq_getElem hlt, hr _ v _ hj (List.getElem?_eq_getElem hlt)⟩
  ·rw [if_neg hjo] at hj
   have hje : j < e.length := (List.getElem?_eq_some_iff.1 hj).1
   rw [if_neg (by omega)]
   exact hec j v hj
 ·rw [if_neg hik] at hk
  obtain ⟨h2, h3, h4⟩ := he k el hk
  refine ⟨h2, h3, fun j v hj => ?_⟩
  have hjl : j < l.s := by have := (List.getElem?_eq_some_iff.1 hj).1; omega
  rw [foldSet_get, if_neg]
  ·exact h4 j v hj
  ·intro hx
   rcases Nat.lt_or_gt_of_ne hik with hlt | hgt
   ·have : (i + 1) * l.s <= k * l.s := Nat.mul_le_mul_right _ hlt
    rw [Nat.add_mul, Nat.one_mul] at this; omega
   ·have : (k + 1) * l.s <= i * l.s := Nat.mul_le_mul_right _ hgt
    rw [Nat.add_mul, Nat.one_mul] at this; omega
theorem flat_at {s : Nat} : ∀ {es : List (List AV)}, (∀ e ∈ es, e.length = s) -> ∀ {i j : Nat} {e : List AV} {v : AV}, es[i]? = some e -> e[j]? = some v -> es.flatten[i * s + j]? = some v
 | [], _, i, j, e, v, h, _ => by simp at h
 | e0 :: es, hl, 0, j, e, v, h, hj => by
  simp at h; subst h
  have := (List.getElem?_eq_some_iff.1 hj).1
  rw [List.flatten_cons, List.getElem?_append_left (by omega)]
  simpa using hj
 | e0 :: es, hl, i + 1, j, e, v, h, hj => by
  have he := hl e0 (List.mem_cons_self ..)
  rw [List.flatten_cons, List.getElem?_append_right (by rw [Nat.add_mul, Nat.one_mul]; omega)]
  have := flat_at (fun e' he' => hl e' (List.mem_cons_of_mem _ he')) (i := i) (by simpa using h) hj
  rw [he, Nat.add_mul, Nat.one_mul]
  have e1 : i * s + s + j - s = i * s + j := by omega
  rw [e1]; exact this
theorem flat_len {s : Nat} : ∀ {es : List (List AV)}, (∀ e ∈ es, e.length = s) -> es.flatten.length = es.length * s
 | [], _ => by simp
 | e :: es, hl => by
  rw [List.flatten_cons, List.length_append, flat_len (fun e' he' => hl e' (List.mem_cons_of_mem _ he')), hl e (List.mem_cons_self ..), List.length_cons, Nat.add_mul, Nat.one_mul]
  omega
theorem flat_store (hh : HRel base w0 Z φ H nx w) {b i o : Nat} {s : Nat} {blk : Blk} {es : List (List AV)} {cs : List AV} {us : List Value} {l : Loc} (hb : H.get b = some blk) (hrow : asRow blk = some (s, es)) (hf : φ b = some l)
    (hl : us.length = cs.length) (h1 : ∀ u ∈ us, u.oneCell' = true) (hall : cs.all oneC = true) (hr : ∀ (j : Nat) (a : AV) (u : Value), cs[j]? = some a -> us[j]? = some u -> Rep Z φ a u) (ho : i * s + o + cs.length <= es.length * s) :
    (storeCells ⟨l.B, l.ob + i * l.s + o, none⟩ us).run P w = .ok () (w.setCells l.B (l.ob + i * l.s + o) us) /\
      HRel base w0 Z φ (H.set b (.row s (chunk s es.length (splice es.flatten (i * s + o) cs)))) nx (w.setCells l.B (l.ob + i * l.s + o) us) := by
  obtain ⟨hz, hs, hlim, c, T, fz, hw, hsz, hfz, he⟩ := hh.rowOf hb hrow hf
  subst hs
  have hlens : ∀ e ∈ es, e.length = l.s := fun e hm => by
    obtain ⟨m, hm⟩ := List.mem_iff_getElem?.1 hm
    exact (he m e hm).1
  have hfl := flat_len hlens
  have hsl : (splice es.flatten (i * l.s + o) cs).length = es.length * l.s := by rw [splice_length, hfl]
  have hlm : es.length * l.s <= l.lim * l.s := Nat.mul_le_mul_right _ hlim
  obtain ⟨q1, q2, q3, q4⟩ := setCells_rest us w l.B (l.ob + i * l.s + o)
  refine ⟨hh.run_write hb hrow hf h1 (by omega) (by omega), hh.upd hb hf q1 q2 q3 (by omega) (fun k hk _ => setCells_other us w _ _ k hk) ?_⟩
  refine ⟨rfl, by simpa [chunk_eq] using hlim, _, T, fz, setCells_block us w _ _ c T fz hw, by rw [foldSet_size]; exact hsz, by rw [foldSet_size]; exact hfz, fun k el hk => ?_⟩
  obtain ⟨g1, g2, g3⟩ := chunk_get hsl hk
  have hcell : ∀ j v, el[j]? = some v -> j < l.s /\ (splice es.flatten (i * l.s + o) cs)[k * l.s + j]? = some v := fun j v hj => by
    have hlt : j < l.s := by have := (List.getElem?_eq_some_iff.1 hj).1; omega
    exact ⟨hlt, by rw [<- g3 j hlt]; exact hj⟩
  have hfall : es.flatten.all oneC = true := by
    rw [List.all_eq_true]
    intro v hv
    obtain ⟨e, hem, hve⟩ := List.mem_flatten.1 hv
    obtain ⟨m, hm⟩ := List.mem_iff_getElem?.1 hem
    exact List.all_eq_true.1 (he m e hm).2.1 v hve
  refine ⟨g2, List.all_eq_true.2 fun v hv => ?_, fun j v hj => ?_⟩
  · obtain ⟨j, hj⟩ := List.mem_iff_getElem?.1 hv
    exact List.all_eq_true.1 (all_splice _ _ _ hfall hall) v (List.mem_of_getElem? (hcell j v hj).2)
  · obtain ⟨hlt, hj2⟩ := hcell j v hj
    rw [splice_get] at hj2
    rw [foldSet_get]
    by_cases hin : i * l.s + o <= k * l.s + j /\ k * l.s + j < i * l.s + o + cs.length /\ k * l.s + j < es.flatten.length
    · rw [if_pos hin] at hj2
      rw [if_pos (by omega)]
      have e1 : l.ob + k * l.s + j - (l.ob + i * l.s + o) = k * l.s + j - (i * l.s + o) := by omega
      rw [e1]
      have hlt2 : k * l.s + j - (i * l.s + o) < us.length := by omega
      exact ⟨us[k * l.s + j - (i * l.s + o)], List.getElem?_eq_getElem hlt2, hr _ v _ hj2 (List.getElem?_eq_getElem hlt2)⟩
    · rw [if_neg hin] at hj2
      obtain ⟨m, e, x, k1, k2, k3, k4⟩ := flat_get hlens hj2
      have hmem := (List.getElem?_eq_some_iff.1 hj2).1
      rw [if_neg (by omega)]
      obtain ⟨u, hu, hru⟩ := (he m e k1).2.2 x v k2
      exact ⟨u, by have e2 : l.ob + k * l.s + j = l.ob + m * l.s + x := by omega
                   rw [e2]; exact hu, hru⟩
theorem oneCells {cs : List AV} {us : Array Value} (h : Reps Z φ cs us) (ho : cs.all oneC = true) : ∀ u ∈ us.toList, u.oneCell' = true := by
 intro u hu
 obtain ⟨j, hj, he⟩ := List.mem_iff_getElem.1 hu
 have hjl : j < cs.length := by have := h.1; simp at hj; omega
 exact oneCell_of (h.2 j cs[j] u (List.getElem?_eq_getElem hjl) (by simp at hj; simp at he; rw [Array.getElem?_eq_getElem hj, he])) (List.all_eq_true.1 ho _ (List.getElem_mem hjl))
theorem sound_store (hh : HRel base w0 Z φ H nx w) {t : TypeId} {x v r : AV} {ux uv : Value} {H' : Heap} {nx' : Nat} (hx : Rep Z φ x ux) (hv : Rep Z φ v uv) (hr : astore P t x v H nx = some (r, H', nx')) :
  ∃ w', (Instr.storeAt t ux uv).run P w = .ok () w' /\ r = .undef /\ HRel base w0 Z φ H' nx' w' := by
 unfold astore at hr
 cases hx with
 | ptr hf =>
  rename_i b i o l
  simp only [Option.bind_eq_bind, Option.bind_eq_some_iff] at hr
  obtain ⟨blk, hb, ⟨s, es⟩, hrow, e, he, cs, hcs, n, hn, hr⟩ := hr
  simp only [spliceF_eq, farStore] at he hr
  split at hr
  ·rename_i hc
   simp only [Option.some.injEq, Prod.mk.injEq] at hr
   obtain ⟨rfl, rfl, rfl⟩ := hr
   obtain ⟨hreps, hall⟩ := rep_cells hcs hv
   obtain ⟨g1, g2⟩ := row_store (P := P) (o := o) (cs := cs) (us := uv.cells.toList) hh hb hrow hf he (by simpa using hreps.1) (oneCells hreps hall) hall (fun j a u h1 h2 => hreps.2 j a u h1 (by simpa using h2)) (by omega)
   refine ⟨_, ?_, rfl, g2⟩
   unfold Instr.storeAt
   refine run_bind' (x := (⟨l.B, l.ob + i * l.s + o, none⟩ : Addr)) (w' := w) rfl ?_
   unfold storeVar
   refine run_bind' (run_szOf hn w) ?_
   rw [if_neg (by have := hreps.1; omega)]
   exact g1
  ·have flatK : (if cs.length = n /\ i * s + o + n <= es.length * s then some (AV.undef, H.set b (.row s (chunk s es.length (splice es.flatten (i * s + o) cs))), nx) else none) = some (r, H', nx') ->
     ∃ w', (Instr.storeAt t (.pointer (some ⟨l.B, l.ob + i * l.s + o, none⟩)) uv).run P w = .ok () w' /\ r = .undef /\ HRel base w0 Z φ H' nx' w' := by
    intro hr
    split at hr
    rotate_left
    ·cases hr
    rename_i hc
    simp only [Option.some.injEq, Prod.mk.injEq] at hr
    obtain ⟨rfl, rfl, rfl⟩ := hr
    obtain ⟨hreps, hall⟩ := rep_cells hcs hv
    obtain ⟨g1, g2⟩ := flat_store (P := P) (i := i) (o := o) (cs := cs) (us := uv.cells.toList) hh hb hrow hf (by simpa using hreps.1) (oneCells hreps hall) hall (fun j a u h1 h2 => hreps.2 j a u h1 (by simpa using h2)) (by omega)
    refine ⟨_, ?_, rfl, g2⟩
    unfold Instr.storeAt
    refine run_bind' (x := (⟨l.B, l.ob + i * l.s + o, none⟩ : Addr)) (w' := w) rfl ?_
    unfold storeVar
    refine run_bind' (run_szOf hn w) ?_
    rw [if_neg (by have := hreps.1; omega)]
    exact g1
   split at hr
   ·rename_i e' he'
    split at hr
    ·rename_i hc
     simp only [Option.some.injEq, Prod.mk.injEq] at hr
     obtain ⟨rfl, rfl, rfl⟩ := hr
     obtain ⟨hreps, hall⟩ := rep_cells hcs hv
     obtain ⟨g1, g2⟩ := row_store (P := P) (o := o % s) (cs := cs) (us := uv.cells.toList) hh hb hrow hf he' (by simpa using hreps.1) (oneCells hreps hall) hall (fun j a u h1 h2 => hreps.2 j a u h1 (by simpa using h2)) (by omega)
     have hls : s = l.s := (hh.rowOf hb hrow hf).2.1
     have e1 : l.ob + (i + o / s) * l.s + o % s = l.ob + i * l.s + o := by
      have := Nat.div_add_mod o s
      rw [<- hls, Nat.add_mul, Nat.mul_comm (o / s)]; omega
     rw [e1] at g1 g2
     refine ⟨_, ?_, rfl, g2⟩
     unfold Instr.storeAt
     refine run_bind' (x := (⟨l.B, l.ob + i * l.s + o, none⟩ : Addr)) (w' := w) rfl ?_
     unfold storeVar
     refine run_bind' (run_szOf hn w) ?_
     rw [if_neg (by have := hreps.1; omega)]
     exact g1
    ·exact flatK hr
   ·exact flatK hr
 | _ => simp at hr
theorem sound_makeMap (hh : HRel base w0 Z φ H nx w) {t : TypeId} {x : Option AV} {u : Option Value} {r : AV} {H' : Heap} {nx' : Nat} (hx : RepO Z φ x u) (hr : amakeMap P t x H nx = some (r, H', nx')) :
  ValOk base w0 Z φ r H' nx' ((Instr.makeMap t u).run P w) := by
 have fin : HRel base w0 Z (φ.set nx ⟨w.heap.size, 0, 0, 0⟩) (H.set nx (.mp [])) (nx + 1) (w.alloc (.map #[] 0)) :=
  hh.alloc (Nat.le_refl _) rfl ⟨#[], 0, heap_new w _, bornOk.nil, rfl, fun i k v m a => by simp at a⟩
 have rp := Rep.mp (Z := Z) (φ := φ.set nx ⟨w.heap.size, 0, 0, 0⟩) (b := nx) (PMap.set_self _ _ _)
 unfold amakeMap at hr
 cases x with
 | none =>
  cases u with
  | some _ => exact hx.elim
  | none =>
   simp only [Option.some.injEq, Prod.mk.injEq] at hr
   obtain ⟨rfl, rfl, rfl⟩ := hr
   exact ⟨.map (some w.heap.size), _, Z, _, rfl, rp, ZLe.refl _, PMap.le_set (hh.fresh (Nat.le_refl _)), fin⟩
 | some x =>
  cases u with
  | none => exact hx.elim
  | some u =>
   simp only [Option.bind_eq_bind, Option.bind_eq_some_iff, Option.some.injEq, Prod.mk.injEq] at hr
   obtain ⟨⟨kt, et⟩, hmt, n, hn, rfl, rfl, rfl⟩ := hr
   obtain ⟨k, rfl⟩ := asI_some hn hx
   refine ⟨.map (some w.heap.size), _, Z, _, ?_, rp, ZLe.refl _, PMap.le_set (hh.fresh (Nat.le_refl _)), fin⟩
   unfold Instr.makeMap
   simp only
   refine run_bind' (run_underlying' (mapT_some hmt) w) ?_
   exact run_bind' (x := n) (w' := w) rfl rfl
theorem bytesOf_info {t n s : Nat} (h : bytesOf P t = some n) (hs : szOf P t = some s) : ∃ i, P.info? t = some i /\ i.bytes = n /\ i.size = s := by
 unfold bytesOf at h
 unfold szOf at hs
 cases hi : P.info? t with
 | none => simp [hi] at h
 | some i => simp [hi] at h hs; exact ⟨i, rfl, h, hs⟩
theorem wrap_small {n : Int} (h0 : 0 <= n) (h1 : n <= 281474976710656) : IntKind.i64.wrap n = n := by
 rw [IntKind.wrap_i64]; omega
theorem run_makeSlice (w : World) {t : TypeId} {x y : AV} {ux uy : Value} {r : AV} {H' : Heap} {nx' : Nat} (hx : Rep Z φ x ux) (hy : Rep Z φ y uy) (hr : amakeSlice P t x y H nx = some (r, H', nx')) :
  ∃ (l c : Int) (s : Nat) (z : List AV) (cc : Array Value) (e : TypeId), (sliceElem P t).bind (zeroCellsOf P) = some z /\ 0 <= l /\ l <= c /\ asI x = some l /\ r = .sl nx s 0 l.toNat (some c.toNat) /\ H' = H.set nx (.row s (List.replicate c.toNat z)) /\ nx' = nx + 1 /\ cc.size = c.toNat * s /\ z.length = s /\ z.all oneC = true /\
   (Instr.makeSlice t ux uy).run P w = .ok (.slice (some ⟨w.heap.size, 0, none⟩) l.toNat c.toNat) (w.alloc (.cells cc e)) /\
   ∀ j, j < c.toNat -> ∀ (q : Nat) (v : AV), z[q]? = some v -> ∃ u, cc[j * s + q]? = some u /\ Rep Z φ v u := by
 unfold amakeSlice at hr
 simp only [Option.bind_eq_bind, Option.bind_eq_some_iff] at hr
 obtain ⟨e, he, s, hs, by_, hby, z, hz, l, hl, c, hc, hr⟩ := hr
 split at hr
 ·rename_i hcond
  obtain ⟨hzl, h0, hlc, hb, hcs⟩ := hcond
  simp only [Option.some.injEq, Prod.mk.injEq] at hr
  obtain ⟨rfl, rfl, rfl⟩ := hr
  obtain ⟨k1, rfl⟩ := asI_some hl hx
  obtain ⟨k2, rfl⟩ := asI_some hc hy
  obtain ⟨i, hi, rfl, rfl⟩ := bytesOf_info hby hs
  have hzz : (sliceElem P t).bind (zeroCellsOf P) = some z := by rw [he, Option.bind_some, hz]
  unfold zeroCellsOf at hz
  simp only [Option.bind_eq_some_iff] at hz
  obtain ⟨z0, hz0, hz⟩ := hz
  obtain ⟨zu, hzu, hzr⟩ := run_zeroValue (Z := Z) (φ := φ) hz0 w
  obtain ⟨hzc, hz1⟩ := rep_cells hz hzr
  have hu := sliceElem_some he
  have hti : ∀ w, (typeInfo e).run P w = .ok i w := fun w => by simp [typeInfo, hi, go_sem]
  have hw1 := wrap_small h0 (by omega : l <= 281474976710656)
  have hw2 := wrap_small (by omega : 0 <= c) hcs
  have hnl : ¬ (((decide (c < 0) || decide ((i.bytes : Int) * c > 2 ^ 48)) || decide (l < 0) || decide (l > c)) = true) := by
   simp only [Bool.or_eq_true, decide_eq_true_eq]; omega
  have key : ∀ cells : Array Value, cells = (if c.toNat * i.size = 0 then #[] else zu.cells) ->
    (Instr.makeSlice t (.int k1 l) (.int k2 c)).run P w = .ok (.slice (some ⟨w.heap.size, 0, none⟩) l.toNat c.toNat) (w.alloc (.cells ((Array.range (c.toNat * i.size)).map (fun j => cells[j % cells.size]!)) e)) := by
   intro cells hcells
   unfold Instr.makeSlice
   refine run_bind' (run_underlying' hu w) ?_
   simp only
   refine run_bind' (x := l) (w' := w) rfl (run_bind' (x := c) (w' := w) rfl (run_bind' (hti w) ?_))
   simp only [hw1, hw2]
   rw [if_neg hnl]
   refine run_bind' (x := ()) (w' := w) (by unfold askRoom; split <;> rfl) ?_
   refine run_bind' (run_szOf hs w) ?_
   by_cases h00 : c.toNat * i.size = 0
   ·rw [if_pos h00] at hcells ⊢
    subst hcells
    exact rfl
   ·rw [if_neg h00] at hcells ⊢
    subst hcells
    refine run_bind' hzu ?_
    exact rfl
  refine ⟨l, c, i.size, z, _, e, hzz, h0, hlc, hl, rfl, rfl, rfl, by simp, hzl, hz1, key _ rfl, fun j hjl q v hq => ?_⟩
  have hqs : q < i.size := by have := (List.getElem?_eq_some_iff.1 hq).1; omega
  have hlt : j * i.size + q < c.toNat * i.size := by
   have : (j + 1) * i.size <= c.toNat * i.size := Nat.mul_le_mul_right _ hjl
   rw [Nat.add_mul, Nat.one_mul] at this; omega
  have hzs : zu.cells.size = i.size := by rw [hzc.1, hzl]
  have hne : ¬ c.toNat * i.size = 0 := by omega
  rw [if_neg hne]
  have hq2 : q < zu.cells.size := by omega
  refine ⟨zu.cells[q], ?_, hzc.2 q v _ hq (Array.getElem?_eq_getElem hq2)⟩
  simp only [Array.getElem?_map, Array.getElem?_range, hlt, if_true, Option.map_some, Option.some.injEq]
  rw [hzs, Nat.mul_comm, Nat.mul_add_mod, Nat.mod_eq_of_lt hqs, getElem!_pos zu.cells q hq2]
 ·cases hr
theorem sound_makeSlice (hh : HRel base w0 Z φ H nx w) {t : TypeId} {x y : AV} {ux uy : Value} {r : AV} {H' : Heap} {nx' : Nat} (hx : Rep Z φ x ux) (hy : Rep Z φ y uy) (hr : amakeSlice P t x y H nx = some (r, H', nx')) :
  ValOk base w0 Z φ r H' nx' ((Instr.makeSlice t ux uy).run P w) := by
 obtain ⟨l, c, s, z, cc, e, _, h0, hlc, _, rfl, rfl, rfl, hsz, hzl, hz1, hrun, hcell⟩ := run_makeSlice w hx hy hr
 refine ⟨_, _, Z, _, hrun, ?_, ZLe.refl _, PMap.le_set (hh.fresh (Nat.le_refl _)), row_new (lim := c.toNat) hh (by simp) (by omega) (fun x _ => by simp) fun j el hj => ?_⟩
 ·exact .sl (PMap.set_self _ _ _) rfl rfl (by omega) (by simp) (.inl (by simp))
 ·have hjl : j < c.toNat := by have := (List.getElem?_eq_some_iff.1 hj).1; simpa using this
  simp [List.getElem?_replicate, hjl] at hj
  subst hj
  exact ⟨hzl, hz1, fun q v hq => hcell j hjl q v hq⟩
end
end Go.Lom
