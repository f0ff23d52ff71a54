import Derived.Test.YtfbpaonmegmcgaaGreatLibC
import Derived.Test.YtfbpaonmegmcgaaGreatLibV
import Derived.ChangeArms
import Derived.Carry
import Derived.OpenShut
import Derived.SizedLaws
set_option linter.all false
/- Effects on unknown contents; an operation; calls: what they ask, and what follows. No conditions of its own. -/
namespace Go.Lom
open Go.RowKit
abbrev ET := Option (Out × List Bool)
def lstStore (P : Program) (t : TypeId) (b i o : Nat) (v : AV) (τ : Ty) (xs : List τ.den) (H : Heap) (nx : Nat) : ET :=
 match cellsOf v, szOf P t with
 | some cs, some n => if cs.length = n /\ o + n <= τ.sz then match τ.dec [] (splice (τ.enc (xs.getD i τ.dflt)) o cs) with
  | some (y, ps) => some ((.undef, H.set b (.lst τ (xs.set i y)), nx), ps ++ [decide (i < xs.length)])
  | none => none
  else none
 | _, _ => none
def arrStore (P : Program) (t : TypeId) (b i o : Nat) (τ : Ty) (ys : List τ.den) (m : Nat) (H : Heap) (nx : Nat) : ET :=
 match i, o with
 | 0, 0 => match szOf P t with
  | some n => some ((.undef, H.set b (.lst τ ys), nx), [decide (mulN ys.length τ.sz = n), decide (ys.length = m)])
  | none => none
 | _, _ => none
def storeT (P : Program) (t : TypeId) (a v : AV) (H : Heap) (nx : Nat) : ET :=
 match a with
 | .ptr b i o => match H.get b with
  | some (.lst τ xs) => match v with
   | .ar τ' ys => if h : τ' = τ then arrStore P t b i o τ (castL h ys) xs.length H nx else none
   | v => match τ.sz with
    | 1 => lstStore P t b (i + o) 0 v τ xs H nx
    | _ => lstStore P t b i o v τ xs H nx
  | some (.row s es) => match v with
   | .ar τ ys => if s = τ.sz then arrStore P t b i o τ ys es.length H nx else none
   | _ => none
  | _ => none
 | _ => none
def selStore (P : Program) (t : TypeId) (a v : AV) (H : Heap) (nx : Nat) : ET :=
 match P.underlying t with
 | some (.int k) => match a with
  | .ptr b i o => match v with
   | .int k' n => match H.get b with
    | some (.row s es) => match es[i]? with
     | some c => if k' = k /\ szOf P t = some 1 then if longRow c then some ((.undef, H.set b (.row s (es.set i (setI o n 0 c))), nx), [selOk k c o]) else none else none
     | none => none
    | _ => none
   | _ => none
  | _ => none
 | _ => none
def storeX (P : Program) (t : TypeId) (a v : AV) (H : Heap) (nx : Nat) : ET :=
 match selStore P t a v H nx with
 | some r => some r
 | none => storeT P t a v H nx
def boxT (x : AV) (H : Heap) (nx : Nat) : ET :=
 match x with
 | .ar τ xs => some ((.ptr nx 0 0, H.set nx (.lst τ xs), nx + 1), [])
 | _ => none
def arrSliceT (P : Program) (t : TypeId) (x : AV) (lo hi mx : Option AV) (H : Heap) (nx : Nat) : ET :=
 match mx, x, P.underlying t with
 | none, .ptr b 0 0, some (.array n e) => match H.get b with
  | some (.lst τ xs) => if szOf P e = some τ.sz then match bndI hi n, bndI lo (0 : Nat) with
   | some h, some l => some ((.sl b τ.sz l.toNat (h.toNat - l.toNat) (some (n - l.toNat)), H, nx), [decide (0 <= l /\ l <= h /\ h <= n), decide (xs.length = n)])
   | _, _ => none
   else none
  | _ => none
 | _, _, _ => none
def makeT (P : Program) (t : TypeId) (l c : AV) (H : Heap) (nx : Nat) : ET :=
 match l, c, sliceElem P t with
 | .int _ n, .int _ m, some e => match tyOf P 8 e, szOf P e, bytesOf P e, zeroCellsOf P e with
  | some τ, some s, some by_, some z => match τ.dec [] z with
   | some (d, ps) => if z.length = s /\ s = τ.sz then some ((.sl nx τ.sz 0 n.toNat (some m.toNat), H.set nx (.lst τ (List.replicate m.toNat d)), nx + 1), ps ++ [decide (0 <= n /\ n <= m /\ (by_ : Int) * m <= 281474976710656 /\ m <= 281474976710656)]) else none
   | none => none
  | _, _, _, _ => none
 | _, _, _ => none
def buildT (P : Program) (t : TypeId) (len : Nat) (parts : List (Nat × AV)) (H : Heap) (nx : Nat) : ET :=
 match sliceElem P t, aliteral P t len parts with
 | some e, some (s, es) => match tyOf P 8 e with
  | some τ => match mapD (τ.dec []) es with
   | some (xs, ps) => if s = τ.sz then some ((.sl nx τ.sz 0 len (some len), H.set nx (.lst τ xs), nx + 1), ps) else none
   | none => none
  | none => none
 | _, _ => none
def callT (P : Program) (c : Call) (F : Fr) (H : Heap) (nx : Nat) : ET :=
 match c.callee, c.args.toList, c.argTypes.toList with
 | .builtin .append, [x, y], [t, t'] => if t = t' then appT P t (ev F x) (ev F y) H nx else none
 | _, _, _ => none
def strTo (P : Program) (d : TypeId) (v : AV) : Bool := match v with
 | .str _ => match P.underlying d with
  | some (.slice _) => true
  | _ => false
 | _ => false
def strT (P : Program) (src dst : TypeId) (x : AV) (H : Heap) (nx : Nat) : ET :=
 match x, astrBytes P src dst x H nx with
 | .str s, some _ => some ((.sl nx 1 0 s.length none, H.set nx (.lst (.i .u8) (s.map fun b => (b.toNat : Int))), nx + 1), [])
 | _, _ => none
def mupT (P : Program) (t : TypeId) (m k v : AV) (H : Heap) (nx : Nat) : ET :=
 match m with
 | .mp b => match H.get b with
  | some (.tm κ ν l) => match mapT P t with
   | some (kt, et) => match keyTy P kt κ with
    | true => match keyD κ k, keyD ν v with
     | some key, some x => some ((.undef, H.set b (.tm κ ν (tmPut κ l key x)), nx), [])
     | _, _ => none
    | false => none
   | none => none
  | _ => none
 | _ => none
def eT (P : Program) (op : Op) (F : Fr) (H : Heap) (nx : Nat) : ET :=
 match op with
 | .store t a v => storeX P t (ev F a) (ev F v) H nx
 | .box _ x => boxT (ev F x) H nx
 | .slice t x lo hi mx => arrSliceT P t (ev F x) (lo.map (ev F)) (hi.map (ev F)) (mx.map (ev F)) H nx
 | .makeSlice t l c => makeT P t (ev F l) (ev F c) H nx
 | .buildSlice t len ps => buildT P t len (ps.toList.map fun p => (p.1, ev F p.2)) H nx
 | .call c => callT P c F H nx
 | .convert s d x => strT P s d (ev F x) H nx
 | .mapUpdate t m k v => mupT P t (ev F m) (ev F k) (ev F v) H nx
 | .insert t m k v => mupT P t (ev F m) (ev F k) (ev F v) H nx
 | _ => none
section
variable {P : Program} {base : Nat -> Prop} {w0 : Start} {Z : ZMap} {φ : PMap} {H : Heap} {nx : Nat} {w : World}
theorem lstStore_core (hh : HRel base w0 Z φ H nx w) {t : TypeId} {b i o : Nat} {v r : AV} {ux uv : Value} {τ : Ty} {xs : List τ.den} {H' : Heap} {nx' : Nat} {ps : List Bool} (hb : H.get b = some (.lst τ xs)) (hx : Rep Z φ (.ptr b i o) ux) (hv : Rep Z φ v uv) (hr : lstStore P t b i o v τ xs H nx = some ((r, H', nx'), ps)) (hp : ∀ p ∈ ps, p = true) :
  ∃ w', (Instr.storeAt t ux uv).run P w = .ok () w' /\ r = .undef /\ HRel base w0 Z φ H' nx' w' := by
 unfold lstStore at hr
 split at hr
 rotate_left
 ·cases hr
 rename_i cs n hcs hn
 split at hr
 rotate_left
 ·cases hr
 rename_i hc
 split at hr
 rotate_left
 ·cases hr
 rename_i y ps0 hd
 simp only [Option.some.injEq, Prod.mk.injEq] at hr
 obtain ⟨⟨rfl, rfl, rfl⟩, rfl⟩ := hr
 have hi : i < xs.length := of_decide_eq_true (hp _ (List.mem_append_right _ (List.mem_singleton.2 rfl)))
 have hg := getElem?_getD τ.dflt hi
 have has : astore P t (.ptr b i o) v H nx = some (.undef, H.set b (.row τ.sz ((xs.map τ.enc).set i (splice (τ.enc (xs.getD i τ.dflt)) o cs))), nx) := by
  simp only [astore, hb, asRow, Option.bind_eq_bind, Option.bind_some, List.getElem?_map, hg, Option.map_some, hcs, hn, Ty.enc_length, spliceF_eq]
  rw [if_pos hc]
 obtain ⟨w', h1, h2, h3⟩ := sound_store hh hx hv has
 refine ⟨w', h1, h2, h3.retype rfl fun l hrow => rowRel_weak hrow rfl (by simp) fun j e hj => ?_⟩
 rw [List.getElem?_set] at hj
 by_cases hij : i = j
 ·subst hij
  rw [if_pos rfl, if_pos (by simpa using hi)] at hj
  injection hj with hj; subst hj
  refine ⟨y, by rw [List.getElem?_set, if_pos rfl, if_pos hi], dec_weak hd fun p h => hp p (List.mem_append_left _ h)⟩
 ·rw [if_neg hij, List.getElem?_map] at hj
  cases hx : xs[j]? with
  | none => rw [hx] at hj; cases hj
  | some z =>
   rw [hx] at hj; injection hj with hj; subst hj
   exact ⟨z, by rw [List.getElem?_set, if_neg hij, hx], WeakS.refl _⟩
theorem arrStore_core (hh : HRel base w0 Z φ H nx w) {t : TypeId} {b i o s : Nat} {blk : Blk} {es : List (List AV)} {τ : Ty} {ys : List τ.den} {r : AV} {ux uv : Value} {H' : Heap} {nx' : Nat} {ps : List Bool} (hb : H.get b = some blk) (hrow : asRow blk = some (s, es)) (hs : s = τ.sz)
  (hx : Rep Z φ (.ptr b i o) ux) (hv : Rep Z φ (.ar τ ys) uv) (hr : arrStore P t b i o τ ys es.length H nx = some ((r, H', nx'), ps)) (hp : ∀ p ∈ ps, p = true) :
  ∃ w', (Instr.storeAt t ux uv).run P w = .ok () w' /\ r = .undef /\ HRel base w0 Z φ H' nx' w' := by
 unfold arrStore at hr
 split at hr
 rotate_left
 ·cases hr
 split at hr
 rotate_left
 ·cases hr
 rename_i n hn
 simp only [Option.some.injEq, Prod.mk.injEq] at hr
 obtain ⟨⟨rfl, rfl, rfl⟩, rfl⟩ := hr
 have h1 : mulN ys.length τ.sz = n := of_decide_eq_true (hp _ (by simp))
 have h2 : ys.length = es.length := of_decide_eq_true (hp _ (by simp))
 rw [mulN_eq] at h1
 subst hs
 generalize hva : AV.ar τ ys = va at hv
 cases hv <;> cases hva
 rename_i us hagg
 have hreps := hagg.reps
 cases hx with
 | ptr hf =>
 rename_i l
 have hone : (ys.flatMap τ.enc).all oneC = true := flatMap_all τ.enc_oneC ys
 have hlen : (ys.flatMap τ.enc).length = es.length * τ.sz := by rw [flatMap_len τ.enc_length, h2]
 obtain ⟨g1, g2⟩ := flat_store (P := P) (i := 0) (o := 0) (cs := ys.flatMap τ.enc) (us := us.toList) hh hb hrow hf (by simpa using hreps.1) (oneCells hreps hone) hone (fun j a u h1 h2 => hreps.2 j a u h1 (by simpa using h2)) (by omega)
 refine ⟨_, ?_, rfl, g2.retype rfl fun l' hrow' => rowRel_weak hrow' rfl (by simp [chunk_eq, h2]) fun j e hj => ?_⟩
 ·unfold Instr.storeAt
  refine run_bind' (x := (⟨l.B, l.ob + 0 * l.s + 0, none⟩ : Addr)) (w' := w) rfl ?_
  unfold storeVar
  refine run_bind' (run_szOf hn w) ?_
  rw [if_neg (by show ¬ us.size ≠ n; rw [hreps.1, flatMap_len τ.enc_length, h1]; simp)]
  exact g1
 ·obtain ⟨hz, hs, hlim, c, T, fz, hw, hsz, _, he⟩ := hh.rowOf hb hrow hf
  have hfl := flat_len (s := τ.sz) (es := es) fun e he' => by
   obtain ⟨m, hm⟩ := List.mem_iff_getElem?.1 he'
   rw [(he m e hm).1, hs]
  have hsp : splice es.flatten (0 * τ.sz + 0) (ys.flatMap τ.enc) = ys.flatMap τ.enc := by
   apply List.ext_getElem?
   intro k
   rw [splice_get]
   by_cases hk : k < (ys.flatMap τ.enc).length
   ·rw [if_pos ⟨by omega, by omega, by omega⟩]; congr 1; omega
   ·rw [if_neg (by omega), List.getElem?_eq_none (by omega), List.getElem?_eq_none (by omega)]
  rw [hsp] at hj
  obtain ⟨k1, k2, k3⟩ := chunk_get (by rw [hlen]) hj
  have hy := List.getElem?_eq_getElem (show j < ys.length by omega)
  refine ⟨_, hy, ?_⟩
  have : e = τ.enc ys[j] := by
   apply List.ext_getElem?
   intro k
   by_cases hk : k < τ.sz
   ·rw [k3 k hk, flatMap_at τ.enc_length hy hk]
   ·rw [List.getElem?_eq_none (by omega), List.getElem?_eq_none (by rw [Ty.enc_length]; omega)]
  rw [this]; exact WeakS.refl _
theorem storeT_core (hh : HRel base w0 Z φ H nx w) {t : TypeId} {x v r : AV} {ux uv : Value} {H' : Heap} {nx' : Nat} {ps : List Bool} (hx : Rep Z φ x ux) (hv : Rep Z φ v uv) (hr : storeT P t x v H nx = some ((r, H', nx'), ps)) (hp : ∀ p ∈ ps, p = true) :
  ∃ w', (Instr.storeAt t ux uv).run P w = .ok () w' /\ r = .undef /\ HRel base w0 Z φ H' nx' w' := by
 unfold storeT at hr
 split at hr
 rotate_left
 ·cases hr
 rename_i b i o
 split at hr
 ·rename_i τ xs hb
  split at hr
  ·split at hr
   ·rename_i τ' ys ht
    subst ht
    refine arrStore_core hh hb rfl rfl hx hv (es := xs.map τ'.enc) ?_ hp
    rw [List.length_map]; exact hr
   ·cases hr
  ·split at hr
   ·rename_i hsz
    refine lstStore_core hh hb (i := i + o) (o := 0) ?_ hv hr hp
    cases hx with
    | ptr hf =>
     rename_i l
     have hls : l.s = 1 := by rw [<- (hh.rowOf hb rfl hf).2.1, hsz]
     have e : l.ob + i * l.s + o = l.ob + (i + o) * l.s + 0 := by rw [hls]; omega
     rw [e]; exact .ptr hf
   ·exact lstStore_core hh hb hx hv hr hp
 ·rename_i s es hb
  split at hr
  ·split at hr
   ·rename_i hs
    exact arrStore_core hh hb rfl hs hx hv hr hp
   ·cases hr
  ·cases hr
 ·cases hr
theorem selStore_core (hh : HRel base w0 Z φ H nx w) {t : TypeId} {x v r : AV} {ux uv : Value} {H' : Heap} {nx' : Nat} {ps : List Bool} (hx : Rep Z φ x ux) (hv : Rep Z φ v uv) (hr : selStore P t x v H nx = some ((r, H', nx'), ps)) (hp : ∀ p ∈ ps, p = true) :
  ∃ w', (Instr.storeAt t ux uv).run P w = .ok () w' /\ r = .undef /\ HRel base w0 Z φ H' nx' w' := by
 unfold selStore at hr
 split at hr
 rotate_left
 ·cases hr
 rename_i k hu
 split at hr
 rotate_left
 ·cases hr
 rename_i b i o
 split at hr
 rotate_left
 ·cases hr
 rename_i k' n
 split at hr
 rotate_left
 ·cases hr
 rename_i s es hb
 split at hr
 rotate_left
 ·cases hr
 rename_i c hc
 split at hr
 rotate_left
 ·cases hr
 rename_i hk
 obtain ⟨hk, hz⟩ := hk
 subst hk
 split at hr
 rotate_left
 ·cases hr
 simp only [Option.some.injEq, Prod.mk.injEq] at hr
 obtain ⟨⟨rfl, rfl, rfl⟩, rfl⟩ := hr
 have hs := hp _ (List.mem_singleton.2 rfl)
 have hl : o < c.length := (List.getElem?_eq_some_iff.1 (sel_get hs)).1
 refine sound_store hh hx hv ?_
 unfold astore
 simp only [Option.bind_eq_bind, hb, Option.bind_some, asRow, hc, cellsOf, hz]
 rw [setI_eq hs]
 simp only [oneC, if_true, Option.bind_some, List.length_singleton, true_and, spliceF]
 rw [if_pos (by omega)]
theorem storeX_core (hh : HRel base w0 Z φ H nx w) {t : TypeId} {x v r : AV} {ux uv : Value} {H' : Heap} {nx' : Nat} {ps : List Bool} (hx : Rep Z φ x ux) (hv : Rep Z φ v uv) (hr : storeX P t x v H nx = some ((r, H', nx'), ps)) (hp : ∀ p ∈ ps, p = true) :
  ∃ w', (Instr.storeAt t ux uv).run P w = .ok () w' /\ r = .undef /\ HRel base w0 Z φ H' nx' w' := by
 unfold storeX at hr
 split at hr
 ·rename_i q hq
  injection hr with hr; subst hr
  exact selStore_core hh hx hv hq hp
 ·exact storeT_core hh hx hv hr hp
theorem boxT_core (hh : HRel base w0 Z φ H nx w) {t : TypeId} {x r : AV} {u : Value} {H' : Heap} {nx' : Nat} {ps : List Bool} (hx : Rep Z φ x u) (hr : boxT x H nx = some ((r, H', nx'), ps)) :
  ValOk base w0 Z φ r H' nx' ((Instr.box t u).run P w) := by
 unfold boxT at hr
 split at hr
 rotate_left
 ·cases hr
 rename_i τ xs
 simp only [Option.some.injEq, Prod.mk.injEq] at hr
 obtain ⟨⟨rfl, rfl, rfl⟩, rfl⟩ := hr
 cases hx with
 | ar hagg =>
 rename_i us
 have hreps := hagg.reps
 have hlen : (xs.flatMap τ.enc).length = xs.length * τ.sz := flatMap_len τ.enc_length xs
 have hnew := row_new (c := us) (e := t) (s := τ.sz) (es := xs.map τ.enc) (lim := xs.length) (fz := (0, 0)) hh (by simp) (by rw [hreps.1, hlen]; exact Nat.le_refl _) (fun x _ => by simp) fun i el hi => by
  rw [List.getElem?_map] at hi
  cases hx : xs[i]? with
  | none => rw [hx] at hi; cases hi
  | some y =>
   rw [hx] at hi
   simp only [Option.map_some, Option.some.injEq] at hi
   subst hi
   refine ⟨τ.enc_length y, τ.enc_oneC y, fun j v hj => ?_⟩
   have hjs : j < τ.sz := by have := (List.getElem?_eq_some_iff.1 hj).1; rw [Ty.enc_length] at this; exact this
   have hv := flatMap_at τ.enc_length hx hjs
   rw [hj] at hv
   have hlt : i * τ.sz + j < us.size := by rw [hreps.1]; exact (List.getElem?_eq_some_iff.1 hv).1
   exact ⟨_, Array.getElem?_eq_getElem hlt, hreps.2 _ v _ hv (Array.getElem?_eq_getElem hlt)⟩
 refine ⟨.pointer (some ⟨w.heap.size, 0, none⟩), _, Z, _, run_bind' (show (newVar t (Value.agg us)).run P w = .ok ⟨w.heap.size, 0, none⟩ _ from rfl) rfl, ?_, ZLe.refl _, PMap.le_set (hh.fresh (Nat.le_refl _)), hnew.retype rfl fun l h => h⟩
 have := Rep.ptr (Z := Z) (φ := φ.set nx ⟨w.heap.size, 0, τ.sz, xs.length⟩) (b := nx) (i := 0) (o := 0) (PMap.set_self _ _ _)
 simpa using this
theorem arrSliceT_core (hh : HRel base w0 Z φ H nx w) {t : TypeId} {x r : AV} {u : Value} {lo hi mx : Option AV} {ulo uhi umx : Option Value} (hx : Rep Z φ x u) (rlo : RepO Z φ lo ulo) (rhi : RepO Z φ hi uhi) (rmx : RepO Z φ mx umx) {H' : Heap} {nx' : Nat} {ps : List Bool}
  (hr : arrSliceT P t x lo hi mx H nx = some ((r, H', nx'), ps)) (hp : ∀ p ∈ ps, p = true) : ValOk base w0 Z φ r H' nx' ((Instr.sliceAt t u ulo uhi umx).run P w) := by
 unfold arrSliceT at hr
 split at hr
 rotate_left
 ·cases hr
 rename_i b n e hu
 cases umx with
 | some _ => exact rmx.elim
 | none =>
 split at hr
 rotate_left
 ·cases hr
 rename_i τ xs hb
 split at hr
 rotate_left
 ·cases hr
 rename_i hs
 split at hr
 rotate_left
 ·cases hr
 rename_i h l hh1 hl1
 simp only [Option.some.injEq, Prod.mk.injEq] at hr
 obtain ⟨⟨rfl, rfl, rfl⟩, rfl⟩ := hr
 have hc : 0 <= l /\ l <= h /\ h <= n := of_decide_eq_true (hp _ (by simp))
 have hn : xs.length = n := of_decide_eq_true (hp _ (by simp))
 have b1 := bndI_ok (most := n) hh1 (by omega) hc.2.2
 have b2 := bndI_ok (most := h.toNat) hl1 hc.1 (by omega)
 cases hx with
 | ptr hf =>
 rename_i lc
 have hbo := run_bounds2 (P := P) (isSlice := false) (len := n) (cap := n) b1 b2 rlo rhi (Nat.le_refl _) w
 have hrun : (Instr.sliceAt t (.pointer (some ⟨lc.B, lc.ob + 0 * lc.s + 0, none⟩)) ulo uhi none).run P w = .ok (.slice (some (if n = l.toNat then ⟨lc.B, lc.ob + 0 * lc.s + 0, none⟩ else (⟨lc.B, lc.ob + 0 * lc.s + 0, none⟩ : Addr).add (l.toNat * τ.sz))) (h.toNat - l.toNat) (n - l.toNat)) w := by
  simp [Instr.sliceAt, Instr.sureAddr, Sem.run_bind, run_underlying' hu, run_szOf hs, hbo, go_sem]
 obtain ⟨hz, hrow⟩ := hh.ownAt hb hf
 obtain ⟨hsl, hlim, _⟩ := hrow
 rw [List.length_map] at hlim
 refine ⟨_, w, Z, φ, hrun, .sl hf hsl.symm (show n - l.toNat = n - l.toNat from rfl) (by omega) (by omega) ?_, ZLe.refl _, PLe.refl _, hh⟩
 by_cases hnl : n = l.toNat
 ·right; omega
 ·left; rw [if_neg hnl]; simp [Addr.add, hsl]
theorem makeT_core (hh : HRel base w0 Z φ H nx w) {t : TypeId} {x y : AV} {ux uy : Value} {r : AV} {H' : Heap} {nx' : Nat} {ps : List Bool} (hx : Rep Z φ x ux) (hy : Rep Z φ y uy) (hr : makeT P t x y H nx = some ((r, H', nx'), ps)) (hp : ∀ p ∈ ps, p = true) :
  ValOk base w0 Z φ r H' nx' ((Instr.makeSlice t ux uy).run P w) := by
 unfold makeT at hr
 split at hr
 rotate_left
 ·cases hr
 rename_i k1 n k2 m e he
 split at hr
 rotate_left
 ·cases hr
 rename_i τ s by_ z hτ hs hby hz
 split at hr
 rotate_left
 ·cases hr
 rename_i d ps0 hd
 split at hr
 rotate_left
 ·cases hr
 rename_i hzl
 obtain ⟨hzl, rfl⟩ := hzl
 simp only [Option.some.injEq, Prod.mk.injEq] at hr
 obtain ⟨⟨rfl, rfl, rfl⟩, rfl⟩ := hr
 have hc : 0 <= n /\ n <= m /\ (by_ : Int) * m <= 281474976710656 /\ m <= 281474976710656 := of_decide_eq_true (hp _ (List.mem_append_right _ (List.mem_singleton.2 rfl)))
 have ham : amakeSlice P t (.int k1 n) (.int k2 m) H nx = some (.sl nx τ.sz 0 n.toNat (some m.toNat), H.set nx (.row τ.sz (List.replicate m.toNat z)), nx + 1) := by
  simp only [amakeSlice, he, hs, hby, hz, asI, Option.bind_eq_bind, Option.bind_some]
  rw [if_pos ⟨hzl, hc.1, hc.2.1, hc.2.2.1, hc.2.2.2⟩]
 obtain ⟨v, w', Z', φ', h1, h2, h3, h4, h5⟩ := sound_makeSlice hh hx hy ham
 refine ⟨v, w', Z', φ', h1, h2, h3, h4, h5.retype rfl fun l hrow => rowRel_weak hrow rfl (by simp) fun j e hj => ?_⟩
 rw [List.getElem?_replicate] at hj
 split at hj
 ·rename_i hjm
  injection hj with hj; subst hj
  exact ⟨d, by rw [List.getElem?_replicate, if_pos hjm], dec_weak hd fun p h => hp p (List.mem_append_left _ h)⟩
 ·cases hj
theorem buildT_core (hh : HRel base w0 Z φ H nx w) {t : TypeId} {len : Nat} {ps : List (Nat × AV)} {qs : Array (Nat × Value)} {r : AV} {H' : Heap} {nx' : Nat} {cs : List Bool} (hl : qs.size = ps.length)
  (hps : ∀ (i : Nat) (p : Nat × AV) (q : Nat × Value), ps[i]? = some p -> qs[i]? = some q -> p.1 = q.1 /\ Rep Z φ p.2 q.2) (hr : buildT P t len ps H nx = some ((r, H', nx'), cs)) (hp : ∀ p ∈ cs, p = true) :
  ValOk base w0 Z φ r H' nx' ((Instr.buildSlice t len qs).run P w) := by
 unfold buildT at hr
 split at hr
 rotate_left
 ·cases hr
 rename_i e s es he hlit
 split at hr
 rotate_left
 ·cases hr
 rename_i τ hτ
 split at hr
 rotate_left
 ·cases hr
 rename_i xs ps0 hm
 split at hr
 rotate_left
 ·cases hr
 rename_i hs
 subst hs
 simp only [Option.some.injEq, Prod.mk.injEq] at hr
 obtain ⟨⟨rfl, rfl, rfl⟩, rfl⟩ := hr
 have hab : abuildSlice P t len ps H nx = some (.sl nx τ.sz 0 len (some len), H.set nx (.row τ.sz es), nx + 1) := by
  simp only [abuildSlice, hlit, Option.bind_eq_bind, Option.bind_some]
 obtain ⟨v, w', Z', φ', h1, h2, h3, h4, h5⟩ := sound_buildSlice hh hl hps hab
 obtain ⟨k1, k2⟩ := mapD_get hm
 refine ⟨v, w', Z', φ', h1, h2, h3, h4, h5.retype rfl fun l hrow => rowRel_weak hrow rfl k1.symm fun j e hj => ?_⟩
 obtain ⟨x, p, hx, hd, hq⟩ := k2 j e hj
 exact ⟨x, hx, dec_weak hd fun q hq' => hp q (hq q hq')⟩
theorem strT_core (hh : HRel base w0 Z φ H nx w) {src dst : TypeId} {x r : AV} {u : Value} {H' : Heap} {nx' : Nat} {ps : List Bool} (hx : Rep Z φ x u) (hr : strT P src dst x H nx = some ((r, H', nx'), ps)) :
  ValOk base w0 Z φ r H' nx' ((convert src dst u).run P w) := by
 unfold strT at hr
 split at hr
 ·rename_i s o ho
  simp only [Option.some.injEq, Prod.mk.injEq] at hr
  obtain ⟨⟨rfl, rfl, rfl⟩, rfl⟩ := hr
  have hs : astrBytes P src dst (.str s) H nx = some (.sl nx 1 0 s.length none, H.set nx (.row 1 (bytesL s)), nx + 1) := by
   unfold astrBytes at ho ⊢
   split at ho
   ·rename_i e s' h1 h2 h3
    split at ho
    ·rename_i h4
     injection h3 with h3; subst h3
     simp only [h1, h2, h4]
    ·cases ho
   ·cases ho
  obtain ⟨v, w', Z', φ', h1, h2, h3, h4, h5⟩ := sound_strBytes hh hx hs
  refine ⟨v, w', Z', φ', h1, h2, h3, h4, h5.retype rfl fun l hrow => ?_⟩
  have e : (s.map fun b => (b.toNat : Int)).map (Ty.i .u8).enc = bytesL s := by simp [bytesL, Ty.enc]
  show rowRel _ _ _ _ 1 _
  rw [e]; exact hrow
 ·cases hr
theorem tmFind_spec {κ : Ty} {β : Type} {k : κ.den} : ∀ {l : List (κ.den × β)} {i j : Nat} {v : β}, tmFind κ k l i = some (j, v) -> i <= j /\ ∃ x, l[j - i]? = some (x, v) /\ eqT κ k x = true
 | [], i, j, v, h => by cases h
 | (x, y) :: l, i, j, v, h => by
  simp only [tmFind] at h
  split at h
  ·rename_i e
   simp only [Option.some.injEq, Prod.mk.injEq] at h
   obtain ⟨rfl, rfl⟩ := h
   exact ⟨Nat.le_refl _, x, by simp, e⟩
  ·obtain ⟨h1, z, h2, h3⟩ := tmFind_spec h
   exact ⟨by omega, z, by rw [show j - i = (j - (i + 1)) + 1 by omega]; simpa using h2, h3⟩
theorem mupT_core (hh : HRel base w0 Z φ H nx w) {t : TypeId} {m k v r : AV} {um uk uv : Value} {H' : Heap} {nx' : Nat} {ps : List Bool} (hm : Rep Z φ m um) (hk : Rep Z φ k uk) (hv : Rep Z φ v uv) (hr : mupT P t m k v H nx = some ((r, H', nx'), ps)) :
  ∃ w', (Instr.mapUpdate t um uk uv).run P w = .ok () w' /\ r = .undef /\ HRel base w0 Z φ H' nx' w' := by
 unfold mupT at hr
 split at hr
 rotate_left
 ·cases hr
 rename_i b
 split at hr
 rotate_left
 ·cases hr
 rename_i κ ν l hb
 split at hr
 rotate_left
 ·cases hr
 rename_i kt et hmt
 split at hr
 rotate_left
 ·cases hr
 rename_i hkt
 split at hr
 rotate_left
 ·cases hr
 rename_i key x hkey hx
 simp only [Option.some.injEq, Prod.mk.injEq] at hr
 obtain ⟨⟨rfl, rfl, rfl⟩, rfl⟩ := hr
 have hkey := keyD_val hkey
 have hx := keyD_val hx
 subst hkey hx
 have hup : amapUpdate P t (.mp b) (κ.val key) (ν.val x) H nx = some (.undef, H.set b (.mp (encM κ ν (tmPut κ l key x))), nx) := by
  have hfk := findK_ty (ν := ν) hkt key l 0
  have hko := (keyEq_ty hkt key key).2.1
  simp only [amapUpdate, hmt, hb, asMp, hko, hfk, Option.bind_eq_bind, Option.bind_some]
  unfold tmPut
  cases hf : tmFind κ key l 0 with
  | none => simp [encM]
  | some p =>
   obtain ⟨j, y⟩ := p
   obtain ⟨_, z, hz, he⟩ := tmFind_spec hf
   have hz : l[j]? = some (z, y) := by simpa using hz
   have hs := (keyEq_ty hkt key z).2.2.2 he
   simp [encM, List.getElem?_map, hz, hs, List.map_set]
 obtain ⟨w', h1, h2, h3⟩ := sound_mapUpdate hh hm hk hv hup
 exact ⟨w', h1, h2, h3.retype rfl fun l' h => h⟩
theorem eT_ok {o : Oper} {F : Fr} {r : AV} {H' : Heap} {nx' : Nat} {ps : List Bool} (hr : eT P o.op F H nx = some ((r, H', nx'), ps)) (hp : ∀ p ∈ ps, p = true) : isVar o.op = false /\ AeOk P o F H nx r H' nx' := by
 obtain ⟨d, op, t, p, af, g⟩ := o
 simp only at hr
 cases op <;> try (cases hr; done)
 case store t a v =>
  have hr : storeX P t (ev F a) (ev F v) H nx = some ((r, H', nx'), ps) := hr
  refine ⟨rfl, fun base w0 Z φ w ρ hh hrep => ?_⟩
  have q1 : Rep Z φ (ev F a) (ρ a) := hrep a (by simp [Op.operands])
  have q2 : Rep Z φ (ev F v) (ρ v) := hrep v (by simp [Op.operands])
  exact outUnit (storeX_core hh q1 q2 hr hp)
 case box bt x =>
  have hr : boxT (ev F x) H nx = some ((r, H', nx'), ps) := hr
  refine ⟨rfl, fun base w0 Z φ w ρ hh hrep => ?_⟩
  have q1 : Rep Z φ (ev F x) (ρ x) := hrep x (by simp [Op.operands])
  exact (boxT_core hh q1 hr).out
 case slice st x lo hi mx =>
  have hr : arrSliceT P st (ev F x) (lo.map (ev F)) (hi.map (ev F)) (mx.map (ev F)) H nx = some ((r, H', nx'), ps) := hr
  refine ⟨rfl, fun base w0 Z φ w ρ hh hrep => ?_⟩
  have q1 : Rep Z φ (ev F x) (ρ x) := hrep x (by simp [Op.operands])
  have q2 : RepO Z φ (lo.map (ev F)) (lo.map ρ) := by
   cases lo with
   | none => trivial
   | some y => exact hrep y (by simp [Op.operands])
  have q3 : RepO Z φ (hi.map (ev F)) (hi.map ρ) := by
   cases hi with
   | none => trivial
   | some y => exact hrep y (by simp [Op.operands])
  have q4 : RepO Z φ (mx.map (ev F)) (mx.map ρ) := by
   cases mx with
   | none => trivial
   | some y => exact hrep y (by simp [Op.operands])
  exact (arrSliceT_core hh q1 q2 q3 q4 hr hp).out
 case mapUpdate t m k v =>
  have hr : mupT P t (ev F m) (ev F k) (ev F v) H nx = some ((r, H', nx'), ps) := hr
  refine ⟨rfl, fun base w0 Z φ w ρ hh hrep => ?_⟩
  exact outUnit (mupT_core hh (hrep m (by simp [Op.operands])) (hrep k (by simp [Op.operands])) (hrep v (by simp [Op.operands])) hr)
 case insert t m k v =>
  have hr : mupT P t (ev F m) (ev F k) (ev F v) H nx = some ((r, H', nx'), ps) := hr
  refine ⟨rfl, fun base w0 Z φ w ρ hh hrep => ?_⟩
  exact outUnit (mupT_core hh (hrep m (by simp [Op.operands])) (hrep k (by simp [Op.operands])) (hrep v (by simp [Op.operands])) hr)
 case convert s d x =>
  have hr : strT P s d (ev F x) H nx = some ((r, H', nx'), ps) := hr
  refine ⟨rfl, fun base w0 Z φ w ρ hh hrep => ?_⟩
  have q1 : Rep Z φ (ev F x) (ρ x) := hrep x (by simp [Op.operands])
  exact (strT_core hh q1 hr).out
 case makeSlice t l c =>
  have hr : makeT P t (ev F l) (ev F c) H nx = some ((r, H', nx'), ps) := hr
  refine ⟨rfl, fun base w0 Z φ w ρ hh hrep => ?_⟩
  have q1 : Rep Z φ (ev F l) (ρ l) := hrep l (by simp [Op.operands])
  have q2 : Rep Z φ (ev F c) (ρ c) := hrep c (by simp [Op.operands])
  have q3 := makeT_core hh q1 q2 hr hp
  exact q3.out
 case buildSlice t len qs =>
  have hr : buildT P t len (qs.toList.map fun p => (p.1, ev F p.2)) H nx = some ((r, H', nx'), ps) := hr
  refine ⟨rfl, fun base w0 Z φ w ρ hh hrep => ?_⟩
  have hps : ∀ (i : Nat) (p : Nat × AV) (q : Nat × Value), (qs.toList.map fun p => (p.1, ev F p.2))[i]? = some p -> (qs.map fun (i, x) => (i, ρ x))[i]? = some q -> p.1 = q.1 /\ Rep Z φ p.2 q.2 := by
   intro i p q h1 h2
   rw [List.getElem?_map] at h1
   rw [Array.getElem?_map] at h2
   cases hq : qs[i]? with
   | none => simp [hq] at h2
   | some y =>
    simp [hq] at h1 h2
    subst h1 h2
    refine ⟨rfl, hrep y.2 ?_⟩
    have : y ∈ qs := Array.mem_of_getElem? hq
    simp only [Op.operands, List.mem_map, Array.mem_toList_iff]
    exact ⟨y, this, rfl⟩
  have q3 := buildT_core (P := P) hh (by simp) hps hr hp
  exact q3.out
 case call c =>
  replace hr : callT P c F H nx = some ((r, H', nx'), ps) := hr
  obtain ⟨callee, args, ats⟩ := c
  unfold callT at hr
  split at hr
  ·rename_i x y t1 t2 hcal hx ht
   simp only at hcal hx ht
   subst hcal
   have e1 : args = #[x, y] := by apply Array.ext'; simpa using hx
   have e2 : ats = #[t1, t2] := by apply Array.ext'; simpa using ht
   subst e1 e2
   split at hr
   ·rename_i htt
    subst htt
    refine ⟨rfl, fun base w0 Z φ w ρ hh hrep => ?_⟩
    have q1 : Rep Z φ (ev F x) (ρ x) := hrep x (by simp [Op.operands, Call.operands])
    have q2 : Rep Z φ (ev F y) (ρ y) := hrep y (by simp [Op.operands, Call.operands])
    obtain ⟨v, w', Z', φ', h1, h2, h3, h4, h5⟩ := append_core (ty := t) hh q1 q2 hr hp
    refine ⟨.value v, w', Z', φ', ?_, .inl ⟨v, rfl, h2⟩, h3, h4, h5⟩
    refine run_builtin fun _ => ?_
    rw [show (#[x, y] : Array Operand).map ρ = #[ρ x, ρ y] from by simp]
    exact run_bind' h1 rfl
   ·cases hr
  ·cases hr
end
structure CallX where
 go : Tgt -> List AV -> Heap -> Nat -> (AE -> Heap -> Nat -> Prop) -> Prop
 wr : Bool := false
 nm : Bool := false
 ip : Bool := false
 un : Nat := 0
 cp : Bool := false
 fz : Bool := false
 fb : List Nat := []
 ul : List Nat := []
instance : CoeFun CallX (fun _ => Tgt -> List AV -> Heap -> Nat -> (AE -> Heap -> Nat -> Prop) -> Prop) := ⟨CallX.go⟩
def wrapA (k : IntKind) (n : Int) : Int := k.wrap n
def wrapV (wr : Bool) (op : BinOp) (x y : AV) : Option AV :=
 match wr, op, x, y with
 | true, .add, .int k a, .int k' b => if k = k' then some (.int k (wrapA k (a + b))) else none
 | _, _, _, _ => none
theorem wrapV_ok {P : Program} {wr : Bool} {op : BinOp} {t : TypeId} {ox oy : Operand} {x y r : AV} (h : wrapV wr op x y = some r) : abin P op t ox oy x y = some r := by
 unfold wrapV at h
 split at h
 ·split at h
  ·rename_i hk; injection h with h; subst h; subst hk; simp [abin, binI, wrapA]
  ·cases h
 ·cases h
def CallXOk (P : Program) (call : CallX) : Prop := ∀ k avs H nx R, call k avs H nx R -> SCallT P k avs H nx R
def retK (K : AV -> Heap -> Nat -> Prop) (QP : AV -> Heap -> Nat -> Prop) : AE -> Heap -> Nat -> Prop := fun x H nx =>
 match x with
 | .ret v => K v H nx
 | .panic v => QP v H nx
def xe (P : Program) (op : Op) (F : Fr) (H : Heap) (nx : Nat) (K : AV -> Heap -> Nat -> Prop) : Prop :=
 match eT P op F H nx with
 | some ((r, H', nx'), ps) => allP ps (K r H' nx')
 | none => match ae P op F H nx with
  | some (r, H', nx') => K r H' nx'
  | none => False
def isEff : Op -> Bool
 | .alloc _ | .box .. | .buildSlice .. | .store .. | .makeMap .. | .makeSlice .. | .mapUpdate .. | .insert .. => true
 | .call { callee := .builtin .append, .. } => true
 | _ => false
def isEffF (F : Fr) : Op -> Bool
 | .slice _ x _ _ _ => match ev F x with
  | .ptr _ _ _ => true
  | _ => false
 | op => isEff op
def nameAt : Heap -> Nat -> (Heap -> Prop) -> Prop
 | [], _, K => K []
 | (c, x) :: H, b, K => match Nat.beq c b with
  | true => match x with
   | .lst τ xs => ∀ ys : List τ.den, ys = xs -> K ((c, .lst τ ys) :: H)
   | x => K ((c, x) :: H)
  | false => nameAt H b fun H' => K ((c, x) :: H')
theorem nameAt_ok : ∀ {H : Heap} {b : Nat} {K : Heap -> Prop}, nameAt H b K -> K H
 | [], _, K, h => h
 | (c, x) :: H, b, K, h => by
  unfold nameAt at h
  split at h
  ·split at h
   ·exact h _ rfl
   ·exact h
  ·exact nameAt_ok (K := fun H' => K ((c, x) :: H')) h
def nameIf (nm : Bool) (o : Option Nat) (H : Heap) (K : Heap -> Prop) : Prop :=
 match nm with
 | true => match o with
  | some b => nameAt H b K
  | none => K H
 | false => K H
theorem nameIf_ok {nm : Bool} {o : Option Nat} {H : Heap} {K : Heap -> Prop} (h : nameIf nm o H K) : K H := by
 unfold nameIf at h
 split at h
 ·split at h
  ·exact nameAt_ok h
  ·exact h
 ·exact h
def nmB (F : Fr) (r : AV) : Op -> Option Nat
 | .store _ a _ => match ev F a with
  | .ptr b _ _ => some b
  | _ => none
 | .call { callee := .builtin .append, .. } => match r with
  | .sl b _ _ _ _ => some b
  | _ => none
 | _ => none
def unkLen : AV -> Option Nat
 | .rl _ xs => some xs.length
 | .sl _ _ _ len _ => some len
 | .rs xs => some xs.length
 | _ => none
def eqNil (P : Program) (t : TypeId) (x y : AV) : Option Nat :=
 match P.underlying t with
 | some (.slice _) => match x, y with
  | x, .nils => unkLen x
  | .nils, y => unkLen y
  | _, _ => none
 | _ => none
def isNils : Option AV -> Bool
 | some .nils => true
 | _ => false
def lookLL (P : Program) (t : TypeId) (k : AV) (ok : Bool) (κ τ : Ty) (l : List (κ.den × List τ.den)) : QT :=
 match mapT P t with
 | some (kt, et) => match keyTy P kt κ, isNils (zeroOf P et), keyD κ k with
  | true, true, some key => some (lookV ok (.sl τ) (tmGet κ l key) [], [])
  | _, _, _ => none
 | none => none
def noKey {β : Type} : Option β -> Bool
 | none => true
 | some _ => false
def txV (ok : Bool) (v : AV) : AV := match ok with
 | true => .tup [v, .bool true]
 | false => v
def lookL (P : Program) (t : TypeId) (x k : AV) (ok : Bool) (H : Heap) : QT :=
 match x with
 | .mp b => match H.get b with
  | some (.tm κ (.sl τ) l) => lookLL P t k ok κ τ l
  | some (.tx κ τ l k0 v _) => match mapT P t with
   | some (kt, et) => match keyTy P kt κ, keyD κ k with
    | true, some key => some (txV ok v, [eqT κ key k0, noKey (tmGet κ l key)])
    | _, _ => none
   | none => none
  | _ => none
 | .rt κ (.sl τ) l => lookLL P t k ok κ τ l
 | _ => none
theorem run_call1 {P : Program} {w w' : World} {o : Oper} {ρ : Operand -> Value} {s : Sem Value} {v : Value} (he : execOp ρ o = (do pure (Next.value (<- s)) : Sem Next)) (h : s.run P w = .ok v w') : (execOp ρ o).run P w = .ok (.value v) w' := by
 rw [he]; exact run_bind' h rfl
section
variable {P : Program} {base : Nat -> Prop} {w0 : Start} {Z : ZMap} {φ : PMap} {H : Heap} {nx : Nat} {w : World}
theorem lookLL_ok (hh : HRel base w0 Z φ H nx w) {t : TypeId} {x k r : AV} {ok : Bool} {κ τ : Ty} {l : List (κ.den × List τ.den)} {u uk : Value} {ps : List Bool} (hx : ∀ k ok, alookup P t x k ok H = alookup0 P t x k ok H) (hl : entriesOf H x = some (encM κ (.sl τ) l))
  (h : lookLL P t k ok κ τ l = some (r, ps)) (rx : Rep Z φ x u) (rk : Rep Z φ k uk) : ∃ q, (Instr.lookup t u uk ok).run P w = .ok q w /\ Rep Z φ r q := by
 unfold lookLL at h
 split at h
 rotate_left
 ·cases h
 rename_i kt et hmt
 split at h
 rotate_left
 ·cases h
 rename_i hkt hz hk
 rename_i key
 simp only [Option.some.injEq, Prod.mk.injEq] at h
 obtain ⟨rfl, _⟩ := h
 have hk := keyD_val hk
 subst hk
 have hz : zeroOf P et = some .nils := by
  unfold isNils at hz
  split at hz
  ·rename_i h; exact h
  ·cases hz
 have hfk := findK_ty (ν := .sl τ) hkt key l 0
 have hko := (keyEq_ty hkt key key).2.1
 cases hf : tmFind κ key l 0 with
 | some p =>
  have hr : alookup P t x (κ.val key) ok H = some (lookV ok (.sl τ) (tmGet κ l key) []) := by
   rw [hx]
   simp only [alookup0, hmt, hl, hko, hfk, Option.bind_eq_bind, Option.bind_some]
   unfold tmGet lookV
   cases ok <;> simp [hf]
  exact sound_lookup hh rx rk hr
 | none =>
  have hr : alookup P t x (κ.val key) ok H = some (if ok then .tup [.nils, .bool false] else .nils) := by
   rw [hx]
   simp only [alookup0, hmt, hl, hko, hfk, Option.bind_eq_bind, Option.bind_some]
   cases ok <;> simp [hf, hz]
  obtain ⟨q, hq, hrq⟩ := sound_lookup hh rx rk hr
  refine ⟨q, hq, ?_⟩
  unfold tmGet lookV
  rw [hf]
  have nilR : ∀ v, Rep Z φ .nils v -> Rep Z φ (.rl τ []) v := fun v hv => by cases hv; exact .rl .rs0
  cases ok with
  | false => exact nilR _ hrq
  | true =>
   cases hrq with
   | tup hl hr =>
    refine .tup hl fun i v u h1 h2 => ?_
    cases i with
    | zero =>
     simp at h1; subst h1
     exact nilR _ (hr 0 _ u rfl h2)
    | succ i => exact hr (i + 1) v u h1 h2
theorem findK_tx {kt : TypeId} {κ τ : Ty} (hkt : keyTy P kt κ = true) (key k0 : κ.den) (v : AV) : ∀ (l : List (κ.den × List τ.den)) (i : Nat), tmFind κ key l i = none -> findK P kt (κ.val key) (encM κ (.sl τ) l ++ [(κ.val k0, v)]) i = some (if eqT κ key k0 = true then some (i + l.length, v) else none)
 | [], i, _ => by
  simp only [encM, List.map_nil, List.nil_append, findK, (keyEq_ty hkt key k0).1, Option.bind_eq_bind, Option.bind_some, List.length_nil, Nat.add_zero]
  split <;> rfl
 | (x, y) :: l, i, h => by
  simp only [tmFind] at h
  split at h
  ·cases h
  ·rename_i hc
   have ih := findK_tx hkt key k0 v l (i + 1) h
   simp only [encM, List.map_cons, List.cons_append] at ih ⊢
   have hc : eqT κ key x = false := by simpa using hc
   simp only [findK, (keyEq_ty hkt key x).1, Option.bind_eq_bind, Option.bind_some, hc, Bool.false_eq_true, if_false, ih, List.length_cons]
   have : i + 1 + l.length = i + (l.length + 1) := by omega
   rw [this]
theorem noKey_find {κ : Ty} {β : Type} {l : List (κ.den × β)} {k : κ.den} (h : noKey (tmGet κ l k) = true) : tmFind κ k l 0 = none := by
 unfold tmGet at h
 cases hf : tmFind κ k l 0 with
 | none => rfl
 | some p => rw [hf] at h; cases h
theorem lookL_ok {o : Oper} {F : Fr} {t : TypeId} {x k : Operand} {ok : Bool} (ho : o.op = .lookup t x k ok) {r : AV} {ps : List Bool} (h : lookL P t (ev F x) (ev F k) ok H = some (r, ps)) (hp : ∀ p ∈ ps, p = true) : AeOk P o F H nx r H nx := by
 intro base w0 Z φ w ρ hh hrep
 obtain ⟨d, op, ty, pos, af, g⟩ := o
 simp only at ho
 subst ho
 have rx : Rep Z φ (ev F x) (ρ x) := hrep x (by simp [Op.operands])
 have rk : Rep Z φ (ev F k) (ρ k) := hrep k (by simp [Op.operands])
 suffices hs : ∃ q, (Instr.lookup t (ρ x) (ρ k) ok).run P w = .ok q w /\ Rep Z φ r q by
  obtain ⟨q, hq, hrq⟩ := hs
  exact ⟨.value q, w, Z, φ, run_call1 rfl hq, .inl ⟨q, rfl, hrq⟩, ZLe.refl _, PLe.refl _, hh⟩
 unfold lookL at h
 split at h
 ·rename_i b hxb
  rw [hxb] at rx
  split at h
  ·rename_i κ τ l hb
   exact lookLL_ok hh (fun _ _ => rfl) (by simp [entriesOf, hb, asMp]) h rx rk
  ·rename_i κ τ l k0 v st hb
   split at h
   rotate_left
   ·cases h
   rename_i kt et hmt
   split at h
   rotate_left
   ·cases h
   rename_i hkt hk
   rename_i key
   simp only [Option.some.injEq, Prod.mk.injEq] at h
   obtain ⟨rfl, rfl⟩ := h
   have he : eqT κ key k0 = true := hp _ (by simp)
   have hn := noKey_find (hp (noKey (tmGet κ l key)) (by simp))
   have hk := keyD_val hk
   rw [hk] at rk
   have hfk := findK_tx (P := P) hkt key k0 v l 0 hn
   have hko := (keyEq_ty hkt key key).2.1
   have hr : alookup P t (.mp b) (κ.val key) ok H = some (txV ok v) := by
    simp only [alookup, alookup0, hmt, entriesOf, hb, asMp, hko, hfk, Option.bind_eq_bind, Option.bind_some]
    cases ok <;> simp [he, txV]
   exact sound_lookup hh rx rk hr
  ·cases h
 ·rename_i κ τ l hxb
  rw [hxb] at rx
  exact lookLL_ok hh (fun _ _ => rfl) rfl h rx rk
 ·cases h
def lookA (P : Program) (t : TypeId) (x k : AV) (ok : Bool) (H : Heap) : QT :=
 match x with
 | .mp b => match H.get b with
  | some (.tm κ _ _) => match Ty.decV [] κ k with
   | some (key, ps) => match qLook P t x (κ.val key) ok H with
    | some (r, qs) => some (r, ps ++ qs)
    | none => none
   | none => none
  | _ => none
 | .rt κ _ _ => match Ty.decV [] κ k with
  | some (key, ps) => match qLook P t x (κ.val key) ok H with
   | some (r, qs) => some (r, ps ++ qs)
   | none => none
  | none => none
 | _ => none
theorem lookA_ok {o : Oper} {F : Fr} {t : TypeId} {x k : Operand} {ok : Bool} (ho : o.op = .lookup t x k ok) {r : AV} {ps : List Bool} (h : lookA P t (ev F x) (ev F k) ok H = some (r, ps)) (hp : ∀ p ∈ ps, p = true) : AeOk P o F H nx r H nx := by
 intro base w0 Z φ w ρ hh hrep
 obtain ⟨d, op, ty, pos, af, g⟩ := o
 simp only at ho
 subst ho
 have rx : Rep Z φ (ev F x) (ρ x) := hrep x (by simp [Op.operands])
 have rk : Rep Z φ (ev F k) (ρ k) := hrep k (by simp [Op.operands])
 suffices hs : ∃ q, (Instr.lookup t (ρ x) (ρ k) ok).run P w = .ok q w /\ Rep Z φ r q by
  obtain ⟨q, hq, hrq⟩ := hs
  exact ⟨.value q, w, Z, φ, run_call1 rfl hq, .inl ⟨q, rfl, hrq⟩, ZLe.refl _, PLe.refl _, hh⟩
 have key : ∀ (κ : Ty) (y : κ.den) (ps qs : List Bool), Ty.decV [] κ (ev F k) = some (y, ps) -> qLook P t (ev F x) (κ.val y) ok H = some (r, qs) -> (∀ p ∈ ps, p = true) -> ∃ q, (Instr.lookup t (ρ x) (ρ k) ok).run P w = .ok q w /\ Rep Z φ r q := fun κ y ps qs h1 h2 h3 => by
  have rk' : Rep Z φ (κ.val y) (ρ k) := decV_ok (w := w) (fun b blk l h => by simp [Heap.get] at h) (froze_nil Z φ w) h1 h3 rk
  exact sound_lookup hh rx rk' (qLook_ok h2)
 unfold lookA at h
 split at h
 ·split at h
  ·split at h
   ·rename_i κ _ _ _ y ps1 hd
    split at h
    ·rename_i r1 qs hq
     simp only [Option.some.injEq, Prod.mk.injEq] at h
     obtain ⟨rfl, rfl⟩ := h
     exact key _ y ps1 qs hd hq fun p hp' => hp p (List.mem_append_left _ hp')
    ·cases h
   ·cases h
  ·cases h
 ·split at h
  ·rename_i y ps1 hd
   split at h
   ·rename_i r1 qs hq
    simp only [Option.some.injEq, Prod.mk.injEq] at h
    obtain ⟨rfl, rfl⟩ := h
    exact key _ y ps1 qs hd hq fun p hp' => hp p (List.mem_append_left _ hp')
   ·cases h
  ·cases h
 ·cases h
def mupX (P : Program) (t : TypeId) (m k v : AV) (H : Heap) (nx : Nat) : ET :=
 match m with
 | .mp b => match H.get b with
  | some (.tm κ (.sl τ) l) => match mapT P t with
   | some (kt, _) => match keyTy P kt κ, keyD κ k with
    | true, some key => some ((.undef, H.set b (.tx κ τ l key v none), nx), [noKey (tmGet κ l key)])
    | _, _ => none
   | none => none
  | some (.tx κ τ l k0 _ _) => match mapT P t with
   | some (kt, _) => match keyTy P kt κ, keyD κ k with
    | true, some key => some ((.undef, H.set b (.tx κ τ l key v none), nx), [eqT κ key k0, noKey (tmGet κ l key)])
    | _, _ => none
   | none => none
  | _ => none
 | _ => none
theorem mupX_core (hh : HRel base w0 Z φ H nx w) {t : TypeId} {m k v r : AV} {um uk uv : Value} {H' : Heap} {nx' : Nat} {ps : List Bool} (hm : Rep Z φ m um) (hk : Rep Z φ k uk) (hv : Rep Z φ v uv) (hr : mupX P t m k v H nx = some ((r, H', nx'), ps)) (hp : ∀ p ∈ ps, p = true) :
  ∃ w', (Instr.mapUpdate t um uk uv).run P w = .ok () w' /\ r = .undef /\ HRel base w0 Z φ H' nx' w' := by
 unfold mupX at hr
 split at hr
 rotate_left
 ·cases hr
 rename_i b
 split at hr
 ·rename_i κ τ l hb
  split at hr
  rotate_left
  ·cases hr
  rename_i kt et hmt
  split at hr
  rotate_left
  ·cases hr
  rename_i key hkt hkey
  simp only [Option.some.injEq, Prod.mk.injEq] at hr
  obtain ⟨⟨rfl, rfl, rfl⟩, rfl⟩ := hr
  have hkey := keyD_val hkey
  subst hkey
  have hn := noKey_find (hp _ (List.mem_singleton.2 rfl))
  have hup : amapUpdate P t (.mp b) (κ.val key) v H nx = some (.undef, H.set b (.mp (encM κ (.sl τ) l ++ [(κ.val key, v)])), nx) := by
   have hfk := findK_ty (ν := .sl τ) hkt key l 0
   have hko := (keyEq_ty hkt key key).2.1
   simp only [amapUpdate, hmt, hb, asMp, hko, hfk, hn, Option.bind_eq_bind, Option.bind_some]
   simp
  obtain ⟨w', h1, h2, h3⟩ := sound_mapUpdate hh hm hk hv hup
  exact ⟨w', h1, h2, h3.retype rfl fun l' h => ⟨h, fun s hs => by cases hs⟩⟩
 ·rename_i κ τ l k0 v0 st hb
  split at hr
  rotate_left
  ·cases hr
  rename_i kt et hmt
  split at hr
  rotate_left
  ·cases hr
  rename_i key hkt hkey
  simp only [Option.some.injEq, Prod.mk.injEq] at hr
  obtain ⟨⟨rfl, rfl, rfl⟩, rfl⟩ := hr
  have hkey := keyD_val hkey
  subst hkey
  have he : eqT κ key k0 = true := hp _ (by simp)
  have hn := noKey_find (hp (noKey (tmGet κ l key)) (by simp))
  have hs := (keyEq_ty hkt key k0).2.2.2 he
  have hup : amapUpdate P t (.mp b) (κ.val key) v H nx = some (.undef, H.set b (.mp (encM κ (.sl τ) l ++ [(κ.val key, v)])), nx) := by
   have hfk := findK_tx (P := P) hkt key k0 v0 l 0 hn
   have hko := (keyEq_ty hkt key key).2.1
   have hle : (encM κ (.sl τ) l).length = l.length := by simp [encM]
   simp only [amapUpdate, hmt, hb, asMp, hko, hfk, he, Option.bind_eq_bind, Option.bind_some]
   simp only [if_true, Nat.zero_add, Bool.true_eq_false, if_false]
   rw [List.getElem?_append_right (by omega), hle, Nat.sub_self]
   simp only [List.getElem?_cons_zero, Option.bind_some, hs, if_true, Option.some.injEq, Prod.mk.injEq, true_and, and_true]
   congr 2
   rw [List.set_append_right _ _ (by omega), hle, Nat.sub_self]
   rfl
  obtain ⟨w', h1, h2, h3⟩ := sound_mapUpdate hh hm hk hv hup
  exact ⟨w', h1, h2, h3.retype rfl fun l' h => ⟨h, fun s hs => by cases hs⟩⟩
 ·cases hr
def mentX (P : Program) (t : TypeId) (m k : AV) (H : Heap) : Option ((AV × (Int -> Heap)) × List Bool) :=
 match m with
 | .mp b => match H.get b with
  | some (.tx κ τ l k0 v _) => match mapT P t with
   | some (kt, _) => match keyTy P kt κ, keyD κ k with
    | true, some key => some ((v, fun s => H.set b (.tx κ τ l key v (some s))), [eqT κ key k0, noKey (tmGet κ l key)])
    | _, _ => none
   | none => none
  | _ => none
 | _ => none
theorem mentX_core (hh : HRel base w0 Z φ H nx w) {t : TypeId} {m k v : AV} {um uk : Value} {G : Int -> Heap} {ps : List Bool} (hm : Rep Z φ m um) (hk : Rep Z φ k uk) (hr : mentX P t m k H = some ((v, G), ps)) (hp : ∀ p ∈ ps, p = true) :
  ∃ s : Int, ValOk base w0 Z φ (.tup [v, .int .i64 s]) (G s) nx ((Instr.mapEntry t um uk).run P w) := by
 unfold mentX at hr
 split at hr
 rotate_left
 ·cases hr
 rename_i b
 split at hr
 rotate_left
 ·cases hr
 rename_i κ τ l k0 v0 st hb
 split at hr
 rotate_left
 ·cases hr
 rename_i kt et hmt
 split at hr
 rotate_left
 ·cases hr
 rename_i key hkt hkey
 simp only [Option.some.injEq, Prod.mk.injEq] at hr
 obtain ⟨⟨rfl, rfl⟩, rfl⟩ := hr
 have hkey := keyD_val hkey
 subst hkey
 have he : eqT κ key k0 = true := hp _ (by simp)
 have hn := noKey_find (hp (noKey (tmGet κ l key)) (by simp))
 obtain ⟨_, hko, heq, hs⟩ := keyEq_ty hkt key k0
 have heq := heq he
 have hs := hs he
 subst heq
 have hfk := findK_tx (P := P) hkt key key v0 l 0 hn
 rw [if_pos he, Nat.zero_add] at hfk
 cases hm with
 | mp hf =>
 rename_i lc
 obtain ⟨ms, clk, hw, hbo, hsz, hent⟩ := hh.entries hf hb rfl
 have hle : (encM κ (.sl τ) l).length = l.length := by simp [encM]
 have hE : EntR Z φ (encM κ (.sl τ) l ++ [(κ.val key, v0)]) ms.toList := ⟨by simpa using hsz, fun i a b m h1 h2 => hent i a b m h1 (by simpa using h2)⟩
 obtain ⟨q, hq, hrq⟩ := run_findKey (w := w) hk hE hko hfk
 cases q with
 | none => exact hrq.elim
 | some q =>
 obtain ⟨j, ux⟩ := q
 obtain ⟨rfl, hrx⟩ := hrq
 have hil : l.length < ms.size := by rw [hsz]; simp [hle]
 have hme : ms[l.length]? = some ms[l.length] := Array.getElem?_eq_getElem hil
 have hek : (encM κ (.sl τ) l ++ [(κ.val key, v0)])[l.length]? = some (κ.val key, v0) := by
  rw [List.getElem?_append_right (by omega), hle, Nat.sub_self]; rfl
 obtain ⟨hk0, hv0⟩ := hent _ _ _ _ hek hme
 have hst : (Instr.keyThatStays (((ms[l.length]?).map (·.key)).getD uk) uk).run P w = .ok uk w := by
  unfold Instr.keyThatStays
  rw [hme]
  simp only [Option.map_some, Option.getD_some]
  rw [if_pos (sameK_bits hk0 hk hs)]; rfl
 have hBlt : lc.B < w.heap.size := hh.flt _ _ hf
 refine ⟨(ms[l.length].born : Int), .tuple #[ux, goInt (((ms[l.length]?).map (·.born)).getD 0)], { w with heap := w.heap.setIfInBounds lc.B (.map (ms.modify l.length fun e => { e with key := uk }) clk) }, Z, φ, ?_, ?_, ZLe.refl _, PLe.refl _, ?_⟩
 ·unfold Instr.mapEntry
  refine run_bind' (run_underlying' (mapT_some hmt) w) ?_
  simp only
  refine run_bind' (run_getObj_map' hw) ?_
  simp only
  refine run_bind' (run_checkKey false 10000 kt _ uk hk hko) ?_
  refine run_bind' hq ?_
  exact run_bind' hst (run_bind' (setObj_map hw _) rfl)
 ·rw [hme]
  refine .tup rfl fun i x u h1 h2 => ?_
  match i with
  | 0 => simp at h1 h2; subst h1 h2; exact hrx
  | 1 => simp at h1 h2; subst h1 h2; exact .int _ _
  | n + 2 => simp at h1
 ·have hget : (w.heap.setIfInBounds lc.B (.map (ms.modify l.length fun e => { e with key := uk }) clk))[lc.B]? = some (.map (ms.modify l.length fun e => { e with key := uk }) clk) := by
   rw [Array.getElem?_setIfInBounds, if_pos rfl, if_pos hBlt]
  refine hh.upd hb hf rfl rfl rfl (by simp) (fun k hk _ => by show (w.heap.setIfInBounds _ _)[k]? = _; rw [Array.getElem?_setIfInBounds, if_neg (Ne.symm hk)]) ⟨⟨_, clk, hget, hbo.modify fun _ => rfl, by simpa using hsz, fun i a c m h1 h2 => ?_⟩, fun s hs => ?_⟩
  ·rw [Array.getElem?_modify] at h2
   split at h2
   ·rename_i e
    subst e
    rw [hme] at h2
    simp only [Option.map_some, Option.some.injEq] at h2
    rw [hek] at h1
    injection h1 with h1; injection h1 with e1 e2
    subst e1 e2 h2
    exact ⟨hk, hv0⟩
   ·exact hent i a c m h1 h2
  ·injection hs with hs
   exact ⟨_, clk, { ms[l.length] with key := uk }, hget, by rw [Array.getElem?_modify, if_pos rfl, hme]; rfl, hs⟩
def estX (m s v : AV) (H : Heap) (nx : Nat) : ET :=
 match m, s with
 | .mp b, .int _ n => match H.get b with
  | some (.tx κ τ l k0 _ (some n0)) => some ((.undef, H.set b (.tx κ τ l k0 v none), nx), [n == n0])
  | _ => none
 | _, _ => none
theorem estX_core (hh : HRel base w0 Z φ H nx w) {t : TypeId} {m s v r : AV} {um us uv : Value} {H' : Heap} {nx' : Nat} {ps : List Bool} (hm : Rep Z φ m um) (hs : Rep Z φ s us) (hv : Rep Z φ v uv) (hr : estX m s v H nx = some ((r, H', nx'), ps)) (hp : ∀ p ∈ ps, p = true) :
  ∃ w', (Instr.entryStore t um us uv).run P w = .ok () w' /\ r = .undef /\ HRel base w0 Z φ H' nx' w' := by
 unfold estX at hr
 split at hr
 rotate_left
 ·cases hr
 rename_i b k n
 split at hr
 rotate_left
 ·cases hr
 rename_i κ τ l k0 v0 n0 hb
 simp only [Option.some.injEq, Prod.mk.injEq] at hr
 obtain ⟨⟨rfl, rfl, rfl⟩, rfl⟩ := hr
 have hn : n = n0 := by have := hp _ (List.mem_singleton.2 rfl); simpa using this
 subst hn
 cases hs
 cases hm with
 | mp hf =>
 rename_i lc
 obtain ⟨_, ⟨ms, clk, hw, hbo, hsz, hent⟩, hst⟩ := hh.ownAt hb hf
 obtain ⟨ms', clk', m0, hw', hm0, hborn⟩ := hst n rfl
 rw [hw] at hw'
 injection hw' with hw'; injection hw' with e1 e2
 subst e1 e2
 have hle : (encM κ (.sl τ) l).length = l.length := by simp [encM]
 have hil : l.length < ms.size := by rw [hsz]; simp [hle]
 have hek : (encM κ (.sl τ) l ++ [(κ.val k0, v0)])[l.length]? = some (κ.val k0, v0) := by
  rw [List.getElem?_append_right (by omega), hle, Nat.sub_self]; rfl
 obtain ⟨hk0, _⟩ := hent _ _ _ _ hek hm0
 have hfi : ms.findIdx? (fun e => (e.born : Int) == n) = some l.length := by
  rw [Array.findIdx?_eq_some_iff_getElem]
  refine ⟨hil, ?_, fun j hj => ?_⟩
  ·have : ms[l.length] = m0 := by rw [Array.getElem?_eq_getElem hil] at hm0; injection hm0
   rw [this, hborn]; simp
  ·have := hbo.2 j l.length ms[j] m0 (by omega) (Array.getElem?_eq_getElem (by omega)) hm0
   simp only [beq_iff_eq, <- hborn]
   omega
 have hBlt : lc.B < w.heap.size := hh.flt _ _ hf
 have hget : (w.heap.setIfInBounds lc.B (.map (ms.modify l.length fun e => { e with val := uv }) clk))[lc.B]? = some (.map (ms.modify l.length fun e => { e with val := uv }) clk) := by
  rw [Array.getElem?_setIfInBounds, if_pos rfl, if_pos hBlt]
 refine ⟨{ w with heap := w.heap.setIfInBounds lc.B (.map (ms.modify l.length fun e => { e with val := uv }) clk) }, ?_, rfl, ?_⟩
 ·unfold Instr.entryStore
  refine run_bind' (run_getObj_map' hw) ?_
  simp only
  refine run_bind' (x := n) (w' := w) rfl ?_
  rw [hfi]
  exact setObj_map hw _
 ·refine hh.upd hb hf rfl rfl rfl (by simp) (fun k hk _ => by show (w.heap.setIfInBounds _ _)[k]? = _; rw [Array.getElem?_setIfInBounds, if_neg (Ne.symm hk)]) ⟨⟨_, clk, hget, hbo.modify fun _ => rfl, by simpa using hsz, fun i a c m h1 h2 => ?_⟩, fun s hs => by cases hs⟩
  rw [Array.getElem?_modify] at h2
  split at h2
  ·rename_i e
   subst e
   rw [hm0] at h2
   simp only [Option.map_some, Option.some.injEq] at h2
   rw [List.getElem?_append_right (by omega), hle, Nat.sub_self] at h1
   simp only [List.getElem?_cons_zero, Option.some.injEq, Prod.mk.injEq] at h1
   obtain ⟨rfl, rfl⟩ := h1
   subst h2
   exact ⟨hk0, hv⟩
  ·refine hent i a c m ?_ h2
   rename_i hne
   have hi : i < l.length := by
    have := (List.getElem?_eq_some_iff.1 h1).1
    simp only [List.length_append, hle, List.length_singleton] at this
    omega
   rw [List.getElem?_append_left (by omega)] at h1 ⊢
   exact h1
theorem run_getObj_it {B : Nat} {m : Option Nat} {a c : Nat} {sn : Array Nat} (h : w.heap[B]? = some (.mapIter m a sn c)) : (getObj B).run P w = .ok (.mapIter m a sn c) w := by
 simp [getObj, Sem.run, h]
theorem setObj_it {B : Nat} {m : Option Nat} {a c : Nat} {sn : Array Nat} (h : w.heap[B]? = some (.mapIter m a sn c)) (o : Obj) : (setObj B o).run P w = .ok () { w with heap := w.heap.setIfInBounds B o } := by
 simp [setObj, Sem.run, h]
theorem range_core (hh : HRel base w0 Z φ H nx w) {t kt et : TypeId} (hmt : mapT P t = some (kt, et)) {κ ν : Ty} {l : List (κ.den × ν.den)} {u : Value} (hx : Rep Z φ (.rt κ ν l) u) :
  ValOk base w0 Z φ (.it nx) (H.set nx (.it κ ν none l)) (nx + 1) ((Instr.range t u).run P w) := by
 cases hx with
 | rt hz hn hb h1 h2 =>
  rename_i B ms clk
  have hw := hh.z _ _ hz
  have hu := mapT_some hmt
  have hrun : (Instr.range t (.map (some B))).run P w = .ok (.pointer (some ⟨w.heap.size, 0, none⟩)) (w.alloc (.mapIter (some B) clk #[] clk)) := by
   unfold Instr.range
   refine run_bind' (run_underlying' hu w) ?_
   exact run_bind' (x := Obj.map ms clk) (w' := w) (run_getObj_map' hw) rfl
  have hfr := hh.fresh (Nat.le_refl nx)
  have hl : leftM #[] ms = ms.toList := by simp [leftM]
  refine ⟨_, _, Z, φ.set nx ⟨w.heap.size, 0, 0, 0⟩, hrun, .it (l := ⟨w.heap.size, 0, 0, 0⟩) (PMap.set_self _ _ _), ZLe.refl _, PMap.le_set hfr, hh.alloc (Nat.le_refl _) rfl ⟨B, #[], ms, clk, heap_new w _, hz, hb, ?_, ?_, fun i k v m hi hm => ?_⟩⟩
  ·rw [hl]; simpa [encM] using hn
  ·intro k v hk; cases hk
  ·rw [hl] at hm
   rw [encM, List.getElem?_map] at hi
   cases hp : l[i]? with
   | none => rw [hp] at hi; cases hi
   | some pr =>
    rw [hp] at hi
    injection hi with hi; injection hi with a1 a2
    subst a1 a2
    have hm' : ms[i]? = some m := by simpa using hm
    exact ⟨(h1 i pr m hp hm').mono (ZLe.refl _) (PMap.le_set hfr), (h2 i pr m hp hm').mono (ZLe.refl _) (PMap.le_set hfr)⟩
theorem filter_one {α : Type} {f : α -> Nat} {pre post : List α} {e : α} (h : ((pre ++ e :: post).map f).Nodup) : (pre ++ e :: post).filter (fun x => !(f x == f e)) = pre ++ post := by
 rw [List.map_append, List.map_cons, List.nodup_append] at h
 obtain ⟨_, h2, h3⟩ := h
 have h4 := (List.nodup_cons.1 h2).1
 rw [List.filter_append, List.filter_cons]
 simp only [beq_self_eq_true, Bool.not_true, Bool.false_eq_true, if_false]
 congr 1
 ·refine List.filter_eq_self.2 fun x hx => ?_
  have := h3 (f x) (List.mem_map_of_mem hx) (f e) (List.mem_cons_self ..)
  simpa using this
 ·refine List.filter_eq_self.2 fun x hx => ?_
  have : f x ≠ f e := fun e' => h4 (by rw [<- e']; exact List.mem_map_of_mem hx)
  simpa using this
theorem born_nodup {ms : Array MapEntry} {clk : Nat} (h : bornOk ms clk) : (ms.toList.map (·.born)).Nodup := by
 rw [List.nodup_iff_pairwise_ne, List.pairwise_iff_getElem]
 intro i j hi hj hij
 simp only [List.length_map, Array.length_toList] at hi hj
 simp only [List.getElem_map, Array.getElem_toList]
 exact h.2 i j _ _ (by omega) (Array.getElem?_eq_getElem hi) (Array.getElem?_eq_getElem hj)
theorem leftM_push {seen : Array Nat} {ms : Array MapEntry} {clk : Nat} (h : bornOk ms clk) {pre post : List MapEntry} {e : MapEntry} (hl : leftM seen ms = pre ++ e :: post) : leftM (seen.push e.born) ms = pre ++ post := by
 have hnd : ((pre ++ e :: post).map (·.born)).Nodup := by
  rw [<- hl]
  unfold leftM
  rw [Array.toList_filter]
  exact List.Nodup.sublist (List.Sublist.map _ List.filter_sublist) (born_nodup h)
 rw [<- filter_one (f := fun e : MapEntry => e.born) hnd, <- hl]
 unfold leftM
 rw [Array.toList_filter, Array.toList_filter, List.filter_filter]
 refine List.filter_congr fun x _ => ?_
 rw [Bool.eq_iff_iff]
 simp only [Bool.not_eq_true', Bool.and_eq_true, beq_eq_false_iff_ne, Array.contains_eq_mem, decide_eq_false_iff_not, Array.mem_push]
 constructor
 ·intro h; exact ⟨fun e => h (.inr e), fun e => h (.inl e)⟩
 ·rintro ⟨h1, h2⟩ (h3 | h3)
  ·exact h2 h3
  ·exact h1 h3
theorem split_at {α : Type} {l : List α} {j : Nat} (h : j < l.length) : l = l.take j ++ l[j] :: l.drop (j + 1) := by
 rw [<- List.drop_eq_getElem_cons h, List.take_append_drop]
theorem next_core (hh : HRel base w0 Z φ H nx w) {ty : TypeId} {b : Nat} {κ ν : Ty} {cur : Option (κ.den × ν.den)} {l : List (κ.den × ν.den)} (hb : H.get b = some (.it κ ν cur l)) {u : Value} (hx : Rep Z φ (.it b) u) :
  (l = [] /\ ValOk base w0 Z φ (.tup [.bool false]) H nx ((Instr.next u false ty).run P w)) \/
  ∃ pre p post, l = pre ++ p :: post /\ ValOk base w0 Z φ (.tup [.bool true, κ.val p.1, ν.val p.2]) (H.set b (.it κ ν (some p) (pre ++ post))) nx ((Instr.next u false ty).run P w) := by
 cases hx with
 | it hf =>
 rename_i lc
 obtain ⟨_, B, seen, ms, clk, hw, hz, hbo, hlen, _, hent⟩ := hh.ownAt hb hf
 have hm := hh.z _ _ hz
 have hel : (encM κ ν l).length = l.length := by simp [encM]
 have hcond : (!seen.isEmpty && !ms.isEmpty && ms.all (·.born >= clk)) = false := by
  cases hs : ms.isEmpty with
  | true => simp
  | false =>
   have h0 : 0 < ms.size := by
    cases hsz : ms.size with
    | zero => rw [Array.isEmpty, hsz] at hs; cases hs
    | succ n => exact Nat.succ_pos n
   have : ms.all (·.born >= clk) = false := by
    rw [Bool.eq_false_iff]
    intro ha
    rw [Array.all_eq_true] at ha
    have h1 := ha 0 h0
    have h2 := hbo.1 0 ms[0] (Array.getElem?_eq_getElem h0)
    simp only [ge_iff_le, decide_eq_true_eq] at h1
    omega
   rw [this]; simp
 have hold : (ms.filter fun e => !seen.contains e.born).filter (·.born < clk) = ms.filter fun e => !seen.contains e.born := by
  rw [Array.filter_eq_self]
  intro e he
  obtain ⟨i, hi, he⟩ := Array.mem_iff_getElem.1 (Array.mem_filter.1 he).1
  have := hbo.1 i e (by rw [Array.getElem?_eq_getElem hi, he])
  simpa using this
 have hnew : (ms.filter fun e => !seen.contains e.born).filter (·.born >= clk) = #[] := by
  rw [Array.filter_eq_empty_iff]
  intro e he
  obtain ⟨i, hi, he⟩ := Array.mem_iff_getElem.1 (Array.mem_filter.1 he).1
  have := hbo.1 i e (by rw [Array.getElem?_eq_getElem hi, he])
  simp only [ge_iff_le, decide_eq_true_eq]; omega
 have hlM : (ms.filter fun e => !seen.contains e.born).toList = leftM seen ms := rfl
 generalize hL : (ms.filter fun e => !seen.contains e.born) = L at hold hnew hlM
 have hLs : L.size = l.length := by rw [<- hel, <- hlen, <- hlM]; simp
 have head : ∀ r, (do
   let candidates := (if L.isEmpty then #[none] else #[]) ++ (L ++ #[]).map some
   match candidates[<- choose (.mapNext candidates.size)]? with
   | some (some e) =>
    setObj lc.B (.mapIter (some B) clk (seen.push e.born) clk)
    pure (.tuple #[.bool true, e.key, e.val])
   | some none => pure (.tuple #[.bool false])
   | none => stuck "Next: no such candidate" : Sem Value).run P w = r -> (Instr.next (.pointer (some ⟨lc.B, 0, none⟩)) false ty).run P w = r := by
  intro r hr
  unfold Instr.next
  refine run_bind' (run_getObj_it hw) ?_
  refine run_bind' (run_getObj_map' hm) ?_
  simp only
  rw [hcond]
  simp only [Bool.false_eq_true, if_false]
  rw [hL, hold, hnew]
  exact hr
 cases l with
 | nil =>
  left
  refine ⟨rfl, .tuple #[.bool false], w, Z, φ, head _ ?_, .tup rfl fun i v u h1 h2 => ?_, ZLe.refl _, PLe.refl _, hh⟩
  ·have hLe : L = #[] := Array.eq_empty_of_size_eq_zero (by simpa using hLs)
   subst hLe
   simp [choose, Sem.run, Sem.run_bind, go_sem, Question.forced]
  ·cases i <;> simp at h1 h2
   subst h1 h2; exact .bool _
 | cons p0 l0 =>
  right
  have hLn : L.isEmpty = false := by
   rw [Array.isEmpty]; simp [hLs]
  have hcand : ∀ (j : Nat), j < L.size -> ∀ w1 : World, w1 = w \/ w1 = w.drew -> ∃ pre p post, p0 :: l0 = pre ++ p :: post /\ ValOk base w0 Z φ (.tup [.bool true, κ.val p.1, ν.val p.2]) (H.set b (.it κ ν (some p) (pre ++ post))) nx ((do
    match (((if L.isEmpty then #[none] else #[]) ++ (L ++ #[]).map some) : Array (Option MapEntry))[j]? with
    | some (some e) =>
     setObj lc.B (.mapIter (some B) clk (seen.push e.born) clk)
     pure (.tuple #[.bool true, e.key, e.val])
    | some none => pure (.tuple #[.bool false])
    | none => stuck "Next: no such candidate" : Sem Value).run P w1) := by
   intro j hj w1 hw1
   have hh1 : HRel base w0 Z φ H nx w1 := by rcases hw1 with rfl | rfl <;> first | exact hh | exact hh.drew
   have hheap : w1.heap = w.heap := by rcases hw1 with rfl | rfl <;> rfl
   have hjl : j < (p0 :: l0).length := by rw [<- hLs]; exact hj
   have hc : (((if L.isEmpty then #[none] else #[]) ++ (L ++ #[]).map some) : Array (Option MapEntry))[j]? = some (some L[j]) := by
    rw [hLn]; simp [hj]
   rw [hc]
   simp only
   have hLj : (leftM seen ms)[j]? = some L[j] := by rw [<- hlM]; simp [hj]
   have hsplitL : leftM seen ms = (leftM seen ms).take j ++ L[j] :: (leftM seen ms).drop (j + 1) := by
    have hjm : j < (leftM seen ms).length := (List.getElem?_eq_some_iff.1 hLj).1
    have e1 : (leftM seen ms)[j] = L[j] := (List.getElem?_eq_some_iff.1 hLj).2
    rw [<- e1]; exact split_at hjm
   refine ⟨(p0 :: l0).take j, (p0 :: l0)[j], (p0 :: l0).drop (j + 1), split_at hjl, .tuple #[.bool true, L[j].key, L[j].val], { w1 with heap := w1.heap.setIfInBounds lc.B (.mapIter (some B) clk (seen.push L[j].born) clk) }, Z, φ, ?_, ?_, ZLe.refl _, PLe.refl _, ?_⟩
   ·exact run_bind' (setObj_it (by rw [hheap]; exact hw) _) rfl
   ·have he : (encM κ ν (p0 :: l0))[j]? = some (κ.val (p0 :: l0)[j].1, ν.val (p0 :: l0)[j].2) := by
     rw [encM, List.getElem?_map, List.getElem?_eq_getElem hjl]; rfl
    obtain ⟨r1, r2⟩ := hent j _ _ _ he hLj
    refine .tup rfl fun i v u h1 h2 => ?_
    match i with
    | 0 => simp at h1 h2; subst h1 h2; exact .bool _
    | 1 => simp at h1 h2; subst h1 h2; exact r1
    | 2 => simp at h1 h2; subst h1 h2; exact r2
    | n + 3 => simp at h1
   ·refine hh1.upd hb hf rfl rfl rfl (by simp) (fun k hk _ => by show (w1.heap.setIfInBounds _ _)[k]? = _; rw [Array.getElem?_setIfInBounds, if_neg (Ne.symm hk)]) ⟨B, seen.push L[j].born, ms, clk, ?_, hz, hbo, ?_, fun k v hk => ?_, fun i k v m hi hm => ?_⟩
    ·have := hh1.flt _ _ hf
     show (w1.heap.setIfInBounds _ _)[lc.B]? = _
     rw [Array.getElem?_setIfInBounds, if_pos rfl, if_pos this]
    ·rw [leftM_push hbo hsplitL]
     simp only [encM, List.length_map, List.length_append, List.length_take, List.length_drop] at hlen ⊢
     rw [hlen]
    ·have he : (encM κ ν (p0 :: l0))[j]? = some (κ.val (p0 :: l0)[j].1, ν.val (p0 :: l0)[j].2) := by
      rw [encM, List.getElem?_map, List.getElem?_eq_getElem hjl]; rfl
     obtain ⟨r1, r2⟩ := hent j _ _ _ he hLj
     simp only [Option.map_some, Option.some.injEq, Prod.mk.injEq] at hk
     obtain ⟨rfl, rfl⟩ := hk
     have hmem : L[j] ∈ ms := by
      have : L[j] ∈ ms.filter fun e => !seen.contains e.born := by rw [hL]; exact Array.getElem_mem hj
      exact (Array.mem_filter.1 this).1
     obtain ⟨i, hi, hie⟩ := Array.mem_iff_getElem.1 hmem
     exact ⟨i, L[j], by rw [Array.getElem?_eq_getElem hi, hie], by simp, r1, r2⟩
    ·rw [leftM_push hbo hsplitL] at hm
     have hjm : j < (leftM seen ms).length := (List.getElem?_eq_some_iff.1 hLj).1
     have hi' : (encM κ ν (p0 :: l0))[if i < j then i else i + 1]? = some (k, v) := by
      have e1 : encM κ ν ((p0 :: l0).take j ++ (p0 :: l0).drop (j + 1)) = (encM κ ν (p0 :: l0)).take j ++ (encM κ ν (p0 :: l0)).drop (j + 1) := by
       simp only [encM, List.map_append, List.map_take, List.map_drop]
      rw [e1] at hi
      have hlt : ((encM κ ν (p0 :: l0)).take j).length = j := by rw [List.length_take, hel]; omega
      by_cases hij : i < j
      ·rw [if_pos hij]
       rw [List.getElem?_append_left (by omega), List.getElem?_take, if_pos hij] at hi
       exact hi
      ·rw [if_neg hij]
       rw [List.getElem?_append_right (by omega), hlt, List.getElem?_drop] at hi
       rw [<- hi]; congr 1; omega
     have hm' : (leftM seen ms)[if i < j then i else i + 1]? = some m := by
      have hlt : ((leftM seen ms).take j).length = j := by rw [List.length_take]; omega
      by_cases hij : i < j
      ·rw [if_pos hij]
       rw [List.getElem?_append_left (by omega), List.getElem?_take, if_pos hij] at hm
       exact hm
      ·rw [if_neg hij]
       rw [List.getElem?_append_right (by omega), hlt, List.getElem?_drop] at hm
       rw [<- hm]; congr 1; omega
     exact hent _ k v m hi' hm'
  have hcs : (((if L.isEmpty then #[none] else #[]) ++ (L ++ #[]).map some) : Array (Option MapEntry)).size = L.size := by rw [hLn]; simp
  by_cases hone : L.size <= 1
  ·obtain ⟨pre, p, post, e1, v, w', Z', φ', g1, g2, g3, g4, g5⟩ := hcand 0 (by rw [hLs]; simp) w (.inl rfl)
   refine ⟨pre, p, post, e1, v, w', Z', φ', head _ ?_, g2, g3, g4, g5⟩
   rw [<- g1]
   simp only [hcs]
   refine run_bind' (x := 0) (w' := w) ?_ rfl
   simp [choose, Sem.run, Question.forced, hone]
  ·have hpos : 0 < L.size := by omega
   obtain ⟨pre, p, post, e1, v, w', Z', φ', g1, g2, g3, g4, g5⟩ := hcand (w.tape w.drawn (.mapNext L.size) % L.size) (Nat.mod_lt _ hpos) w.drew (.inr rfl)
   refine ⟨pre, p, post, e1, v, w', Z', φ', head _ ?_, g2, g3, g4, g5⟩
   rw [<- g1]
   simp only [hcs]
   refine run_bind' (x := w.tape w.drawn (.mapNext L.size) % L.size) (w' := w.drew) ?_ rfl
   have hf : Question.forced (.mapNext L.size) = false := by simp [Question.forced]; omega
   simp only [choose, Sem.run, hf, Bool.false_eq_true, if_false]
   rfl
theorem entry_core (hh : HRel base w0 Z φ H nx w) {b : Nat} {κ ν : Ty} {cur : κ.den × ν.den} {l : List (κ.den × ν.den)} (hb : H.get b = some (.it κ ν (some cur) l)) {u : Value} (hx : Rep Z φ (.it b) u) :
  ValOk base w0 Z φ (.tup [κ.val cur.1, ν.val cur.2]) H nx ((Instr.entry u).run P w) := by
 cases hx with
 | it hf =>
 rename_i lc
 obtain ⟨_, B, seen, ms, clk, hw, hz, hbo, hlen, hcur, _⟩ := hh.ownAt hb hf
 have hm := hh.z _ _ hz
 obtain ⟨i, m, h1, h2, h3, h4⟩ := hcur _ _ rfl
 have hfi : ms.find? (·.born == m.born) = some m := by
  have hi : i < ms.size := (Array.getElem?_eq_some_iff.1 h1).1
  have hie : ms[i] = m := (Array.getElem?_eq_some_iff.1 h1).2
  rw [Array.find?_eq_some_iff_getElem]
  refine ⟨by simp, i, hi, hie, fun j hj => ?_⟩
  have := hbo.2 j i ms[j] m (by omega) (Array.getElem?_eq_getElem (by omega)) h1
  simpa using this
 refine ⟨.tuple #[m.key, m.val], w, Z, φ, ?_, .tup rfl fun i v u a b => ?_, ZLe.refl _, PLe.refl _, hh⟩
 ·unfold Instr.entry
  refine run_bind' (run_getObj_it hw) ?_
  simp only [h2]
  refine run_bind' (run_getObj_map' hm) ?_
  simp only [bne_self_eq_false, Bool.false_eq_true, if_false, hfi]
  rfl
 ·match i with
  | 0 => simp at a b; subst a b; exact h3
  | 1 => simp at a b; subst a b; exact h4
  | n + 2 => simp at a
end
def loadE (P : Program) (t : TypeId) (a : AV) (H : Heap) : QT :=
 match a with
 | .ptr b i o => match H.get b with
  | some (.lst (.pr x y) xs) => match P.underlying t, szOf P t with
   | some (.array _ _), some n => match Nat.beq n (Ty.sz (.pr x y)) && Nat.beq o 0 with
    | true => some (.agg (Ty.enc (.pr x y) (xs.getD i (Ty.dflt (.pr x y)))), [decide (i < xs.length)])
    | false => none
   | _, _ => none
  | _ => none
 | _ => none
theorem loadE_ok {P : Program} {H : Heap} {nx : Nat} {o : Oper} {F : Fr} {t : TypeId} {a : Operand} (ho : o.op = .load t a) {r : AV} {ps : List Bool} (h : loadE P t (ev F a) H = some (r, ps)) (hp : ∀ p ∈ ps, p = true) : AeOk P o F H nx r H nx := by
 intro base w0 Z φ w ρ hh hrep
 obtain ⟨d, op, ty, pos, af, g⟩ := o
 simp only at ho
 subst ho
 have rx : Rep Z φ (ev F a) (ρ a) := hrep a (by simp [Op.operands])
 suffices hs : ∃ q, (Instr.loadAt t (ρ a)).run P w = .ok q w /\ Rep Z φ r q by
  obtain ⟨q, hq, hrq⟩ := hs
  exact ⟨.value q, w, Z, φ, run_call1 rfl hq, .inl ⟨q, rfl, hrq⟩, ZLe.refl _, PLe.refl _, hh⟩
 unfold loadE at h
 split at h
 rotate_left
 ·cases h
 rename_i b i o ha
 split at h
 rotate_left
 ·cases h
 rename_i x y xs hb
 split at h
 rotate_left
 ·cases h
 rename_i len e n hu hn
 split at h
 rotate_left
 ·cases h
 rename_i hsz
 rw [Bool.and_eq_true] at hsz
 have ho := Nat.eq_of_beq_eq_true hsz.2
 have hsz2 := Nat.eq_of_beq_eq_true hsz.1
 subst ho
 simp only [Option.some.injEq, Prod.mk.injEq] at h
 obtain ⟨rfl, rfl⟩ := h
 have hi : i < xs.length := of_decide_eq_true (hp _ (List.mem_singleton.2 rfl))
 rw [ha] at rx
 generalize ρ a = ua at rx
 cases rx with
 | ptr hf =>
 have hg := getElem?_getD (Ty.dflt (.pr x y)) hi
 generalize xs.getD i (Ty.dflt (.pr x y)) = z at *
 have he : (xs.map (Ty.enc (.pr x y)))[i]? = some (Ty.enc (.pr x y) z) := by rw [List.getElem?_map, hg]; rfl
 obtain ⟨h1, h2, _, hc⟩ := hh.cellsAt' hb rfl he hf
 rw [h1]
 exact run_loadVar (P := P) (t := t) (o := 0) (r := .agg (Ty.enc (.pr x y) z)) (by
  have hl : (Ty.enc (.pr x y) z).length = n := by rw [Ty.enc_length, hsz2]
  simp only [rd, hu, isAggD, hn, Option.bind_eq_bind, Option.bind_some, if_true, Nat.zero_add, List.drop_zero]
  rw [if_pos (by omega), List.take_of_length_le (by omega)]) hc
def eqRo (P : Program) (t : TypeId) (x y : AV) : Option Bool :=
 match P.underlying t with
 | some (.slice _) => match x, y with
  | .ro _ xs, .nils => some xs.isEmpty
  | .nils, .ro _ xs => some xs.isEmpty
  | _, _ => none
 | _ => none
def slcX (P : Program) (t : TypeId) (x : AV) (lo hi : Option AV) : Option ((Nat × Nat × Nat × Nat × Int) ⊕ (AV × List Bool)) :=
 match P.underlying t, x, lo, hi with
 | some (.slice e), .sl b s off len none, none, some (.int _ h) => if szOf P e = some s then some (.inl (b, s, off, len, h)) else none
 | some (.slice e), .sl b s off len (some c), lo, some (.int _ h) => if szOf P e = some s then match bndI lo (0 : Nat) with
  | some l => some (.inr (.sl b s (addN off l.toNat) (h.toNat - l.toNat) (some (c - l.toNat)), [decide (0 <= l /\ l <= h /\ h <= (c : Int))]))
  | none => none
  else none
 | _, _, _, _ => none
theorem rep_room {Z : ZMap} {φ : PMap} {b s off len : Nat} {v : Value} (h : Rep Z φ (.sl b s off len none) v) : ∃ c, len <= c /\ Rep Z φ (.sl b s off len (some c)) v := by
 cases h with
 | sl hl hls hc hlc hlm ha => exact ⟨_, hlc, .sl hl hls rfl hlc hlm ha⟩
 | sl0n hc => exact ⟨0, Nat.le_refl _, .sl0n rfl⟩
 | sl0s hc a => exact ⟨0, Nat.le_refl _, .sl0s (cap := some 0) rfl a⟩
theorem slcL_ok {P : Program} {t : TypeId} {x : AV} {lo hi : Option AV} {b s off len : Nat} {h : Int} (he : slcX P t x lo hi = some (.inl (b, s, off, len, h))) {c : Nat} (hc : 0 <= h /\ h <= (c : Int)) :
  x = .sl b s off len none /\ aslice P t (.sl b s off len (some c)) lo hi none = some (.sl b s off h.toNat (some c)) := by
 unfold slcX at he
 split at he
 ·rename_i e b' s' off' len' k h' hu
  split at he
  ·rename_i hs
   simp only [Option.some.injEq, Sum.inl.injEq, Prod.mk.injEq] at he
   obtain ⟨rfl, rfl, rfl, rfl, rfl⟩ := he
   refine ⟨rfl, ?_⟩
   have b1 : bnd (some (.int k h')) len' c = some h'.toNat := by
    simp only [bnd, asI, Option.bind_eq_bind, Option.bind_some]
    rw [if_pos ⟨by omega, by omega⟩]
   simp [aslice, hu, hs, mxB, b1, newCap]
   rfl
  ·cases he
 ·split at he
  ·split at he
   ·simp at he
   ·cases he
  ·cases he
 ·cases he
theorem slcR_ok {P : Program} {t : TypeId} {x r : AV} {lo hi : Option AV} {ps : List Bool} (he : slcX P t x lo hi = some (.inr (r, ps))) (hp : ∀ p ∈ ps, p = true) : aslice P t x lo hi none = some r := by
 unfold slcX at he
 split at he
 ·split at he
  ·simp at he
  ·cases he
 ·rename_i lo' e b s off len c k h hu
  split at he
  ·rename_i hs
   split at he
   ·rename_i l hl
    simp only [Option.some.injEq, Sum.inr.injEq, Prod.mk.injEq] at he
    obtain ⟨rfl, rfl⟩ := he
    have hc : 0 <= l /\ l <= h /\ h <= (c : Int) := of_decide_eq_true (hp _ (List.mem_singleton.2 rfl))
    have b1 : bnd (some (.int k h)) len c = some h.toNat := by
     simp only [bnd, asI, Option.bind_eq_bind, Option.bind_some]
     rw [if_pos ⟨by omega, by omega⟩]
    have b2 := bndI_ok (most := h.toNat) hl hc.1 (by omega)
    simp [aslice, hu, hs, mxB, b1, b2, newCap, addN_eq]
   ·cases he
  ·cases he
 ·cases he
def nextAll {α : Type} (pre : List α) (K : List α -> α -> List α -> Prop) : List α -> Prop
 | [] => True
 | p :: post => K pre p post /\ nextAll (pre ++ [p]) K post
theorem nextAll_at {α : Type} {K : List α -> α -> List α -> Prop} : ∀ {l pre : List α}, nextAll pre K l -> ∀ p1 p post, l = p1 ++ p :: post -> K (pre ++ p1) p post
 | [], pre, _, p1, p, post, e => by simp at e
 | q :: l, pre, h, p1, p, post, e => by
  cases p1 with
  | nil =>
   rw [List.nil_append] at e
   injection e with e1 e2
   subst e1 e2
   rw [List.append_nil]; exact h.1
  | cons a p1 =>
   rw [List.cons_append] at e
   injection e with e1 e2
   subst e1
   have := nextAll_at h.2 p1 p post e2
   rwa [List.append_assoc] at this
def xspec (P : Program) (call : CallX) (op : Op) (F : Fr) (H : Heap) (nx : Nat) (K : AV -> Heap -> Nat -> Prop) : Option Prop :=
 match op with
 | .lookup t x k ok => match lookL P t (ev F x) (ev F k) ok H with
  | some (r, ps) => some (allP ps (K r H nx))
  | none => match lookA P t (ev F x) (ev F k) ok H with
   | some (r, ps) => some (allP ps (K r H nx))
   | none => none
 | .load t a => match loadE P t (ev F a) H with
  | some (r, ps) => some (allP ps (K r H nx))
  | none => none
 | .mapUpdate t m k v => match mupX P t (ev F m) (ev F k) (ev F v) H nx with
  | some ((r, H', nx'), ps) => some (allP ps (K r H' nx'))
  | none => none
 | .insert t m k v => match mupX P t (ev F m) (ev F k) (ev F v) H nx with
  | some ((r, H', nx'), ps) => some (allP ps (K r H' nx'))
  | none => none
 | .range t x => match ev F x, mapT P t with
  | .rt κ ν l, some _ => some (K (.it nx) (H.set nx (.it κ ν none l)) (nx + 1))
  | _, _ => none
 | .next i s => match ev F i, s with
  | .it b, false => match H.get b with
   | some (.it κ ν _ l) => match Nat.ble 1000 call.un with
    | true => match l with
     | [] => some (K (.tup [.bool false]) H nx)
     | p :: l => some (nextAll [] (fun pre p post => K (.tup [.bool true, κ.val p.1, ν.val p.2]) (H.set b (.it κ ν (some p) (pre ++ post))) nx) (p :: l))
    | false => some ((l = [] -> K (.tup [.bool false]) H nx) /\ ∀ (pre : List (κ.den × ν.den)) (p : κ.den × ν.den) (post : List (κ.den × ν.den)), l = pre ++ p :: post -> K (.tup [.bool true, κ.val p.1, ν.val p.2]) (H.set b (.it κ ν (some p) (pre ++ post))) nx)
   | _ => none
  | _, _ => none
 | .entry i => match ev F i with
  | .it b => match H.get b with
   | some (.it κ ν (some cur) _) => some (K (.tup [κ.val cur.1, ν.val cur.2]) H nx)
   | _ => none
  | _ => none
 | .mapEntry t m k => match mentX P t (ev F m) (ev F k) H with
  | some ((v, G), ps) => some (allP ps (∀ s : Int, K (.tup [v, .int .i64 s]) (G s) nx))
  | none => none
 | .entryStore _ m s v => match estX (ev F m) (ev F s) (ev F v) H nx with
  | some ((r, H', nx'), ps) => some (allP ps (K r H' nx'))
  | none => none
 | .call c => match call.ip, c.callee, c.args.toList, c.argTypes.toList with
  | true, .builtin .append, [x, y], [t, t'] => match decide (t = t'), appI P t (ev F x) (ev F y) H nx with
   | true, some (o1, ps) => some (allP ps (K o1.1 o1.2.1 o1.2.2))
   | _, _ => match decide (t = t'), appF P t (ev F x) (ev F y) H nx with
    | true, some (o1, o2, ps) => some (allP ps (K o1.1 o1.2.1 o1.2.2 /\ K o2.1 o2.2.1 o2.2.2))
    | _, _ => none
  | true, .builtin .copy, [x, y], [t, t'] => match decide (t = t'), cpyR P t (ev F x) (ev F y) H with
   | true, some (n, H', ps) => some (allP ps (K (.int .i64 n) H' nx))
   | _, _ => none
  | true, .builtin .clear, [x], [t] => match clrX P t (ev F x) H with
   | some (H', ps) => some (allP ps (K (.tup []) H' nx))
   | none => none
  | _, _, _, _ => none
 | .slice t x lo hi none => match call.ip, slcX P t (ev F x) (lo.map (ev F)) (hi.map (ev F)) with
  | true, some (.inl (b, s, off, len, h)) => some (∀ c : Nat, len <= c -> allP [decide (0 <= h /\ h <= (c : Int))] (K (.sl b s off h.toNat (some c)) H nx))
  | true, some (.inr (r, ps)) => some (allP ps (K r H nx))
  | _, _ => none
 | _ => none
theorem xspec_ok {P : Program} {call : CallX} {o : Oper} {F : Fr} {H : Heap} {nx : Nat} {K : AV -> Heap -> Nat -> Prop} {Q : Prop} (h : xspec P call o.op F H nx K = some Q) (hQ : Q) : isVar o.op = false /\ AeK P o F H nx K := by
 obtain ⟨d, op, ty, pos, af, g⟩ := o
 cases op <;> try (simp only [xspec, reduceCtorEq] at h; done)
 case lookup t x k ok =>
  simp only [xspec] at h
  split at h
  ·rename_i r ps hl
   injection h with h; subst h
   rw [allP_iff] at hQ
   exact ⟨rfl, (lookL_ok rfl hl hQ.1).toK hQ.2⟩
  ·split at h
   ·rename_i r ps hl
    injection h with h; subst h
    rw [allP_iff] at hQ
    exact ⟨rfl, (lookA_ok rfl hl hQ.1).toK hQ.2⟩
   ·cases h
 case load t a =>
  simp only [xspec] at h
  split at h
  ·rename_i r ps hl
   injection h with h; subst h
   rw [allP_iff] at hQ
   exact ⟨rfl, (loadE_ok rfl hl hQ.1).toK hQ.2⟩
  ·cases h
 case mapUpdate t m k v =>
  simp only [xspec] at h
  split at h
  ·rename_i r H' nx' ps hl
   injection h with h; subst h
   rw [allP_iff] at hQ
   refine ⟨rfl, AeOk.toK (fun base w0 Z φ w ρ hh hrep => ?_) hQ.2⟩
   exact outUnit (mupX_core hh (hrep m (by simp [Op.operands])) (hrep k (by simp [Op.operands])) (hrep v (by simp [Op.operands])) hl hQ.1)
  ·cases h
 case insert t m k v =>
  simp only [xspec] at h
  split at h
  ·rename_i r H' nx' ps hl
   injection h with h; subst h
   rw [allP_iff] at hQ
   refine ⟨rfl, AeOk.toK (fun base w0 Z φ w ρ hh hrep => ?_) hQ.2⟩
   exact outUnit (mupX_core hh (hrep m (by simp [Op.operands])) (hrep k (by simp [Op.operands])) (hrep v (by simp [Op.operands])) hl hQ.1)
  ·cases h
 case range t x =>
  simp only [xspec] at h
  split at h
  ·rename_i κ ν l p hx hmt
   injection h with h; subst h
   refine ⟨rfl, AeOk.toK (fun base w0 Z φ w ρ hh hrep => ?_) hQ⟩
   have rx : Rep Z φ (ev F x) (ρ x) := hrep x (by simp [Op.operands])
   rw [hx] at rx
   exact (range_core hh (kt := p.1) (et := p.2) hmt rx).out
  ·cases h
 case next i s =>
  simp only [xspec] at h
  split at h
  ·rename_i b hi
   split at h
   ·rename_i κ ν cur l hb
    split at h
    ·split at h
     ·injection h with h; subst h
      refine ⟨rfl, fun base w0 Z φ w ρ hh hrep => ?_⟩
      have rx : Rep Z φ (ev F i) (ρ i) := hrep i (by simp [Op.operands])
      rw [hi] at rx
      rcases next_core (P := P) (ty := ty) hh hb rx with ⟨h1, h2⟩ | ⟨pre, p, post, h1, h2⟩
      ·exact ⟨_, _, _, h2.out, hQ⟩
      ·simp at h1
     ·injection h with h; subst h
      refine ⟨rfl, fun base w0 Z φ w ρ hh hrep => ?_⟩
      have rx : Rep Z φ (ev F i) (ρ i) := hrep i (by simp [Op.operands])
      rw [hi] at rx
      rcases next_core (P := P) (ty := ty) hh hb rx with ⟨h1, h2⟩ | ⟨pre, p, post, h1, h2⟩
      ·cases h1
      ·exact ⟨_, _, _, h2.out, nextAll_at hQ pre p post h1⟩
    ·injection h with h; subst h
     refine ⟨rfl, fun base w0 Z φ w ρ hh hrep => ?_⟩
     have rx : Rep Z φ (ev F i) (ρ i) := hrep i (by simp [Op.operands])
     rw [hi] at rx
     rcases next_core (P := P) (ty := ty) hh hb rx with ⟨h1, h2⟩ | ⟨pre, p, post, h1, h2⟩
     ·exact ⟨_, _, _, h2.out, hQ.1 h1⟩
     ·exact ⟨_, _, _, h2.out, hQ.2 pre p post h1⟩
   ·cases h
  ·cases h
 case entry i =>
  simp only [xspec] at h
  split at h
  ·rename_i b hi
   split at h
   ·rename_i κ ν cur l hb
    injection h with h; subst h
    refine ⟨rfl, AeOk.toK (fun base w0 Z φ w ρ hh hrep => ?_) hQ⟩
    have rx : Rep Z φ (ev F i) (ρ i) := hrep i (by simp [Op.operands])
    rw [hi] at rx
    exact (entry_core hh hb rx).out
   ·cases h
  ·cases h
 case mapEntry t m k =>
  simp only [xspec] at h
  split at h
  ·rename_i v G ps hl
   injection h with h; subst h
   rw [allP_iff] at hQ
   refine ⟨rfl, fun base w0 Z φ w ρ hh hrep => ?_⟩
   obtain ⟨s, hs⟩ := mentX_core hh (hrep m (by simp [Op.operands])) (hrep k (by simp [Op.operands])) hl hQ.1
   exact ⟨_, _, _, hs.out, hQ.2 s⟩
  ·cases h
 case entryStore t m s v =>
  simp only [xspec] at h
  split at h
  ·rename_i r H' nx' ps hl
   injection h with h; subst h
   rw [allP_iff] at hQ
   refine ⟨rfl, AeOk.toK (fun base w0 Z φ w ρ hh hrep => ?_) hQ.2⟩
   exact outUnit (estX_core (t := t) hh (hrep m (by simp [Op.operands])) (hrep s (by simp [Op.operands])) (hrep v (by simp [Op.operands])) hl hQ.1)
  ·cases h
 case slice t x lo hi mx =>
  cases mx with
  | some m => simp [xspec] at h
  | none =>
   simp only [xspec] at h
   split at h
   ·rename_i b s off len hh' hip he
    injection h with h; subst h
    refine ⟨rfl, fun base w0 Z φ w ρ hh hrep => ?_⟩
    have rx : Rep Z φ (ev F x) (ρ x) := hrep x (by simp [Op.operands])
    have ro : ∀ o : Option Operand, (∀ y, o = some y -> Rep Z φ (ev F y) (ρ y)) -> RepO Z φ (o.map (ev F)) (o.map ρ) := fun o ho => by
     cases o with
     | none => exact trivial
     | some y => exact ho y rfl
    have rlo := ro lo fun y hy => hrep y (by subst hy; simp [Op.operands])
    have rhi := ro hi fun y hy => hrep y (by subst hy; simp [Op.operands])
    have hx0 : ev F x = .sl b s off len none := by
     have h2 := he
     unfold slcX at h2
     split at h2
     ·rename_i hux hlo hhi
      split at h2
      ·simp only [Option.some.injEq, Sum.inl.injEq, Prod.mk.injEq] at h2
       obtain ⟨rfl, rfl, rfl, rfl, rfl⟩ := h2
       assumption
      ·cases h2
     ·split at h2
      ·split at h2 <;> simp at h2
      ·cases h2
     ·cases h2
    rw [hx0] at rx
    obtain ⟨c, hlc, rx2⟩ := rep_room rx
    have hQ := hQ c hlc
    rw [allP_iff] at hQ
    have hc : 0 <= hh' /\ hh' <= (c : Int) := of_decide_eq_true (hQ.1 _ (List.mem_singleton.2 rfl))
    obtain ⟨q, hq, hrq⟩ := sound_slice (w := w) (P := P) rx2 rlo rhi (show RepO Z φ none none from trivial) (slcL_ok he hc).2
    exact ⟨_, H, nx, ⟨.value q, w, Z, φ, run_call1 rfl hq, .inl ⟨q, rfl, hrq⟩, ZLe.refl _, PLe.refl _, hh⟩, hQ.2⟩
   ·rename_i r ps hip he
    injection h with h; subst h
    rw [allP_iff] at hQ
    refine ⟨rfl, fun base w0 Z φ w ρ hh hrep => ?_⟩
    have rx : Rep Z φ (ev F x) (ρ x) := hrep x (by simp [Op.operands])
    have ro : ∀ o : Option Operand, (∀ y, o = some y -> Rep Z φ (ev F y) (ρ y)) -> RepO Z φ (o.map (ev F)) (o.map ρ) := fun o ho => by
     cases o with
     | none => exact trivial
     | some y => exact ho y rfl
    have rlo := ro lo fun y hy => hrep y (by subst hy; simp [Op.operands])
    have rhi := ro hi fun y hy => hrep y (by subst hy; simp [Op.operands])
    obtain ⟨q, hq, hrq⟩ := sound_slice (w := w) (P := P) rx rlo rhi (show RepO Z φ none none from trivial) (slcR_ok he hQ.1)
    exact ⟨_, H, nx, ⟨.value q, w, Z, φ, run_call1 rfl hq, .inl ⟨q, rfl, hrq⟩, ZLe.refl _, PLe.refl _, hh⟩, hQ.2⟩
   ·cases h
 case call c =>
  obtain ⟨callee, args, ats⟩ := c
  simp only [xspec] at h
  split at h
  ·rename_i x y t1 t2 hip hx ht
   have e1 : args = #[x, y] := by apply Array.ext'; simpa using hx
   have e2 : ats = #[t1, t2] := by apply Array.ext'; simpa using ht
   subst e1 e2
   have conv : ∀ base w0 Z φ w (ρ : Operand -> Value) r H' nx', t1 = t2 -> ValOk base w0 Z φ r H' nx' ((Builtin.append_ #[t1, t1] t1 #[ρ x, ρ y]).run P w) -> OutOk base w0 Z φ r H' nx' ((execOp ρ ⟨d, .call ⟨.builtin .append, #[x, y], #[t1, t2]⟩, ty, pos, af, g⟩).run P w) := by
    rintro base w0 Z φ w ρ r H' nx' rfl ⟨v, w', Z', φ', h1, h2, h3, h4, h5⟩
    refine ⟨.value v, w', Z', φ', ?_, .inl ⟨v, rfl, h2⟩, h3, h4, h5⟩
    refine run_builtin fun _ => ?_
    rw [show (#[x, y] : Array Operand).map ρ = #[ρ x, ρ y] from by simp]
    exact run_bind' h1 rfl
   split at h
   ·rename_i o1 ps htt hap
    have htt := of_decide_eq_true htt
    injection h with h; subst h
    rw [allP_iff] at hQ
    refine ⟨rfl, fun base w0 Z φ w ρ hh hrep => ?_⟩
    have q1 : Rep Z φ (ev F x) (ρ x) := hrep x (by simp [Op.operands, Call.operands])
    have q2 : Rep Z φ (ev F y) (ρ y) := hrep y (by simp [Op.operands, Call.operands])
    exact ⟨_, _, _, conv _ _ _ _ _ _ _ _ _ htt (appI_core (ty := t1) hh q1 q2 hap hQ.1), hQ.2⟩
   ·split at h
    ·rename_i o1 o2 ps htt hap
     have htt := of_decide_eq_true htt
     injection h with h; subst h
     rw [allP_iff] at hQ
     refine ⟨rfl, fun base w0 Z φ w ρ hh hrep => ?_⟩
     have q1 : Rep Z φ (ev F x) (ρ x) := hrep x (by simp [Op.operands, Call.operands])
     have q2 : Rep Z φ (ev F y) (ρ y) := hrep y (by simp [Op.operands, Call.operands])
     rcases appendF_core (ty := t1) hh q1 q2 hap hQ.1 with h1 | h1
     ·exact ⟨_, _, _, conv _ _ _ _ _ _ _ _ _ htt h1, hQ.2.1⟩
     ·exact ⟨_, _, _, conv _ _ _ _ _ _ _ _ _ htt h1, hQ.2.2⟩
    ·cases h
  ·rename_i x y t1 t2 hip hx ht
   have e1 : args = #[x, y] := by apply Array.ext'; simpa using hx
   have e2 : ats = #[t1, t2] := by apply Array.ext'; simpa using ht
   subst e1 e2
   split at h
   ·rename_i n H' ps htt hap
    have htt := of_decide_eq_true htt
    subst htt
    injection h with h; subst h
    rw [allP_iff] at hQ
    refine ⟨rfl, fun base w0 Z φ w ρ hh hrep => ?_⟩
    have q1 : Rep Z φ (ev F x) (ρ x) := hrep x (by simp [Op.operands, Call.operands])
    have q2 : Rep Z φ (ev F y) (ρ y) := hrep y (by simp [Op.operands, Call.operands])
    obtain ⟨v, w', Z', φ', h1, h2, h3, h4, h5⟩ := cpyR_core (ty := ty) hh q1 q2 hap hQ.1
    refine ⟨_, _, _, ⟨.value v, w', Z', φ', ?_, .inl ⟨v, rfl, h2⟩, h3, h4, h5⟩, hQ.2⟩
    refine run_builtin fun _ => ?_
    rw [show (#[x, y] : Array Operand).map ρ = #[ρ x, ρ y] from by simp]
    exact run_bind' h1 rfl
   ·cases h
  ·rename_i x t1 hip hx ht
   have e1 : args = #[x] := by apply Array.ext'; simpa using hx
   have e2 : ats = #[t1] := by apply Array.ext'; simpa using ht
   subst e1 e2
   split at h
   ·rename_i H' ps hap
    injection h with h; subst h
    rw [allP_iff] at hQ
    refine ⟨rfl, fun base w0 Z φ w ρ hh hrep => ?_⟩
    have q1 : Rep Z φ (ev F x) (ρ x) := hrep x (by simp [Op.operands, Call.operands])
    obtain ⟨v, w', Z', φ', h1, h2, h3, h4, h5⟩ := clrX_core (ty := ty) hh q1 hap hQ.1
    refine ⟨_, _, _, ⟨.value v, w', Z', φ', ?_, .inl ⟨v, rfl, h2⟩, h3, h4, h5⟩, hQ.2⟩
    refine run_builtin fun _ => ?_
    rw [show (#[x] : Array Operand).map ρ = #[ρ x] from by simp]
    exact run_bind' h1 rfl
   ·cases h
  ·cases h
def xop (P : Program) (call : CallX) (o : Oper) (F : Fr) (H : Heap) (nx : Nat) (df : List ADef) (K : AV -> Heap -> Nat -> List ADef -> Prop) (QP : AV -> Heap -> Nat -> Prop) : Prop :=
  match o.op with
  | .panic x => match ev F x with
    | .iface t v => QP (.iface t v) H nx
    | _ => False
  | .defer c => match c.callee with
    | .value f => match calleeOf (ev F f) with
      | some (k, first, cap) => req (funcOk P k) (K .undef H nx (.call k (first ++ c.args.toList.map (ev F) ++ cap) :: df))
      | none => False
    | _ => False
  | .call { callee := .value f, args, .. } => match ev F f with
    | .yf b => call (.y b) (args.toList.map (ev F)) H nx (retK (fun v H' nx' => K v H' nx' df) QP)
    | fv => match calleeOf fv with
      | some (k, first, cap) => req (funcOk P k) (call (.f k) (first ++ args.toList.map (ev F) ++ cap) H nx (retK (fun v H' nx' => K v H' nx' df) QP))
      | none => False
  | .binOp op t x y p => match eqRo P t (ev F x) (ev F y), op with
   | some b, .eql => K (.bool b) H nx df
   | some b, .neq => K (.bool (!b)) H nx df
   | _, _ => match eqNil P t (ev F x) (ev F y), op with
    | some n, .eql => ∀ b : Bool, (b = true -> n = 0) -> K (.bool b) H nx df
    | some n, .neq => ∀ b : Bool, (b = true -> n = 0) -> K (.bool (!b)) H nx df
    | _, _ => match wrapV call.wr op (ev F x) (ev F y) with
      | some r => K r H nx df
      | none => xq P (.binOp op t x y p) F H (fun r => K r H nx df)
  | .convert s d x => match strTo P d (ev F x) with
    | true => xe P (.convert s d x) F H nx (fun r H' nx' => nameIf call.nm (nmB F r (.convert s d x)) H' fun G => K r G nx' df)
    | false => xq P (.convert s d x) F H (fun r => K r H nx df)
  | op => match xspec P call op F H nx (fun r H' nx' => nameIf call.nm (nmB F r op) H' fun G => K r G nx' df) with
    | some Q => Q
    | none => match isEffF F op with
      | true => xe P op F H nx (fun r H' nx' => nameIf call.nm (nmB F r op) H' fun G => K r G nx' df)
      | false => xqN call.ip P op F H (fun r => K r H nx df)
theorem unkLen_rep {Z : ZMap} {φ : PMap} {x : AV} {n : Nat} {u : Value} (h : unkLen x = some n) (hx : Rep Z φ x u) : (∃ ao m c, u = .slice ao m c /\ (ao = none -> n = 0)) /\ ∀ P t ox oy, abin.guardOk P t ox oy x .nils = true /\ abin.guardOk P t ox oy .nils x = true := by
 have rsK : ∀ (xs : List (List AV)) (v : Value), Rep Z φ (.rs xs) v -> ∃ ao m c, v = .slice ao m c /\ (ao = none -> xs.length = 0) := fun xs v h => by
  cases h with
  | rs us hn hc ha h0 h1 h2 => exact ⟨_, _, _, rfl, fun h => nomatch h⟩
  | rs0 => exact ⟨_, _, _, rfl, fun _ => rfl⟩
 unfold unkLen at h
 split at h
 ·injection h with h; subst h
  cases hx with
  | rl hr =>
   obtain ⟨ao, m, c, e, h0⟩ := rsK _ _ hr
   exact ⟨⟨ao, m, c, e, fun ha => by have := h0 ha; simpa using this⟩, fun _ _ _ _ => ⟨rfl, rfl⟩⟩
 ·injection h with h; subst h
  refine ⟨?_, fun _ _ _ _ => ⟨rfl, rfl⟩⟩
  cases hx with
  | sl a b c d e f => exact ⟨_, _, _, rfl, fun h => nomatch h⟩
  | sl0n a => exact ⟨_, _, _, rfl, fun _ => rfl⟩
  | sl0s a b => exact ⟨_, _, _, rfl, fun _ => rfl⟩
 ·injection h with h; subst h
  exact ⟨rsK _ _ hx, fun _ _ _ _ => ⟨rfl, rfl⟩⟩
 ·cases h
def negIf (op : BinOp) (b : Bool) : Bool := match op with
 | .eql => b
 | _ => !b
theorem equalIn_nil {P : Program} {d : Nat} {t e : TypeId} (hu : P.underlying t = some (.slice e)) (ao : Option Addr) (m c : Nat) (w : World) :
  (Op.equalIn (d + 1) t (.slice ao m c) (.slice none 0 0)).run P w = .ok ao.isNone w /\ (Op.equalIn (d + 1) t (.slice none 0 0) (.slice ao m c)).run P w = .ok ao.isNone w := by
 cases ao <;> simp [Op.equalIn, run_underlying' hu, Sem.run_bind, go_sem]
theorem eqNil_ok {P : Program} {op : BinOp} (hop : op = .eql \/ op = .neq) {t : TypeId} {ox oy : Operand} {x y : AV} {u v : Value} {n : Nat} {w : World} {Z : ZMap} {φ : PMap} (h : eqNil P t x y = some n) (hx : Rep Z φ x u) (hy : Rep Z φ y v) :
  ∃ b : Bool, (b = true -> n = 0) /\ (do eqGuard op t ox oy u v; Go.binOp op t u v : Sem Value).run P w = .ok (.bool (negIf op b)) w := by
 unfold eqNil at h
 split at h
 rotate_left
 ·cases h
 rename_i e hu
 have fin : ∀ (b : Bool), (abin.guardOk P t ox oy x y = true) -> (∃ a1 m1 c1 a2 m2 c2, u = .slice a1 m1 c1 /\ v = .slice a2 m2 c2 /\ (Op.equalIn 10000 t u v).run P w = .ok b w) -> (do eqGuard op t ox oy u v; Go.binOp op t u v : Sem Value).run P w = .ok (.bool (negIf op b)) w := by
  intro b hg ⟨a1, m1, c1, a2, m2, c2, e1, e2, he⟩
  refine run_bind' (run_eqGuard hx hy hg hop) ?_
  subst e1 e2
  rcases hop with rfl | rfl
  ·exact run_bind' (show (Op.equal t (.slice a1 m1 c1) (.slice a2 m2 c2)).run P w = .ok b w from he) rfl
  ·exact run_bind' (show (Op.equal t (.slice a1 m1 c1) (.slice a2 m2 c2)).run P w = .ok b w from he) rfl
 split at h
 ·rename_i x0
  obtain ⟨⟨ao, m, c, rfl, h0⟩, hg⟩ := unkLen_rep h hx
  cases hy
  refine ⟨ao.isNone, fun hb => h0 (by simpa using hb), fin _ (hg P t ox oy).1 ⟨_, _, _, _, _, _, rfl, rfl, ?_⟩⟩
  exact (equalIn_nil (d := 9999) hu ao m c w).1
 ·obtain ⟨⟨ao, m, c, rfl, h0⟩, hg⟩ := unkLen_rep h hy
  cases hx
  refine ⟨ao.isNone, fun hb => h0 (by simpa using hb), fin _ (hg P t ox oy).2 ⟨_, _, _, _, _, _, rfl, rfl, ?_⟩⟩
  exact (equalIn_nil (d := 9999) hu ao m c w).2
 ·cases h
theorem ro_rep {Z : ZMap} {φ : PMap} {t : Ty} {xs : List t.den} {u : Value} (hx : Rep Z φ (.ro t xs) u) : ∃ ao m c, u = .slice ao m c /\ ao.isNone = xs.isEmpty := by
 cases hx with
 | ro0 => exact ⟨_, _, _, rfl, rfl⟩
 | ro h =>
  obtain ⟨⟨ao, m, c, e, h0⟩, _⟩ := unkLen_rep (x := .rl t (_ :: _)) rfl h
  refine ⟨ao, m, c, e, ?_⟩
  cases ao with
  | none => exact absurd (h0 rfl) (by simp)
  | some a => rfl
theorem eqRo_ok {P : Program} {op : BinOp} (hop : op = .eql \/ op = .neq) {t : TypeId} {ox oy : Operand} {x y : AV} {u v : Value} {b : Bool} {w : World} {Z : ZMap} {φ : PMap} (h : eqRo P t x y = some b) (hx : Rep Z φ x u) (hy : Rep Z φ y v) :
  (do eqGuard op t ox oy u v; Go.binOp op t u v : Sem Value).run P w = .ok (.bool (negIf op b)) w := by
 unfold eqRo at h
 split at h
 rotate_left
 ·cases h
 rename_i e hu
 have fin : ∀ (b : Bool), (abin.guardOk P t ox oy x y = true) -> (∃ a1 m1 c1 a2 m2 c2, u = .slice a1 m1 c1 /\ v = .slice a2 m2 c2 /\ (Op.equalIn 10000 t u v).run P w = .ok b w) -> (do eqGuard op t ox oy u v; Go.binOp op t u v : Sem Value).run P w = .ok (.bool (negIf op b)) w := by
  intro b hg ⟨a1, m1, c1, a2, m2, c2, e1, e2, he⟩
  refine run_bind' (run_eqGuard hx hy hg hop) ?_
  subst e1 e2
  rcases hop with rfl | rfl
  ·exact run_bind' (show (Op.equal t (.slice a1 m1 c1) (.slice a2 m2 c2)).run P w = .ok b w from he) rfl
  ·exact run_bind' (show (Op.equal t (.slice a1 m1 c1) (.slice a2 m2 c2)).run P w = .ok b w from he) rfl
 split at h
 ·simp only [Option.some.injEq] at h
  subst h
  obtain ⟨ao, m, c, rfl, h0⟩ := ro_rep hx
  cases hy
  rw [<- h0]
  exact fin _ rfl ⟨_, _, _, _, _, _, rfl, rfl, (equalIn_nil (d := 9999) hu ao m c w).1⟩
 ·simp only [Option.some.injEq] at h
  subst h
  obtain ⟨ao, m, c, rfl, h0⟩ := ro_rep hy
  cases hx
  rw [<- h0]
  exact fin _ rfl ⟨_, _, _, _, _, _, rfl, rfl, (equalIn_nil (d := 9999) hu ao m c w).2⟩
 ·cases h
theorem xop_ok {P : Program} {call : CallX} (hc : CallXOk P call) {o : Oper} {F : Fr} {H : Heap} {nx : Nat} {df : List ADef} {K : AV -> Heap -> Nat -> List ADef -> Prop} {QP : AV -> Heap -> Nat -> Prop} (h : xop P call o F H nx df K QP) : SOpR P o F H nx df K QP := by
 have plainB : ∀ b : Bool, (match b with
  | true => xe P o.op F H nx (fun r H' nx' => nameIf call.nm (nmB F r o.op) H' fun G => K r G nx' df)
  | false => xqN call.ip P o.op F H (fun r => K r H nx df)) -> (∃ r, aq P o.op F H = some r /\ K r H nx df) \/ (∃ r H' nx', ae P o.op F H nx = some (r, H', nx') /\ K r H' nx' df) \/ (isVar o.op = false /\ AeK P o F H nx fun r H' nx' => K r H' nx' df) := by
  intro b h
  split at h
  ·unfold xe at h
   split at h
   ·rename_i r H' nx' ps he
    rw [allP_iff] at h
    obtain ⟨h1, h2⟩ := eT_ok he h.1
    exact .inr (.inr ⟨h1, h2.toK (nameIf_ok h.2)⟩)
   ·split at h
    ·rename_i r H' nx' he
     exact .inr (.inl ⟨r, H', nx', he, nameIf_ok h⟩)
    ·exact h.elim
  ·obtain ⟨r, h1, h2⟩ := xqN_ok h
   exact .inl ⟨r, h1, h2⟩
 have plain : (match xspec P call o.op F H nx (fun r H' nx' => nameIf call.nm (nmB F r o.op) H' fun G => K r G nx' df) with
  | some Q => Q
  | none => match isEffF F o.op with
   | true => xe P o.op F H nx (fun r H' nx' => nameIf call.nm (nmB F r o.op) H' fun G => K r G nx' df)
   | false => xqN call.ip P o.op F H (fun r => K r H nx df)) -> (∃ r, aq P o.op F H = some r /\ K r H nx df) \/ (∃ r H' nx', ae P o.op F H nx = some (r, H', nx') /\ K r H' nx' df) \/ (isVar o.op = false /\ AeK P o F H nx fun r H' nx' => K r H' nx' df) := by
  intro h
  split at h
  ·rename_i Q hx
   obtain ⟨h1, h2⟩ := xspec_ok hx h
   exact .inr (.inr ⟨h1, fun base w0 Z φ w ρ hH hr => let ⟨r, H', nx', g1, g2⟩ := h2 base w0 Z φ w ρ hH hr; ⟨r, H', nx', g1, nameIf_ok g2⟩⟩)
  ·exact plainB (isEffF F o.op) h
 obtain ⟨dst, op, ty, pos, after, guard⟩ := o
 unfold xop at h
 unfold SOpR
 simp only at h plain plainB ⊢
 split at h
 ·exact h
 ·rename_i c
  simp only
  split at h
  ·rename_i f hf
   simp only [hf]
   split at h
   ·rename_i k first cap hco
    rw [req_iff] at h
    exact ⟨k, first, cap, hco, h.1, h.2⟩
   ·exact h.elim
  ·exact h.elim
 ·rename_i f args ats
  split at h
  ·rename_i b hb
   refine .inr ⟨b, hb, SYield.mono (hc (.y b) _ _ _ _ h) fun x H' nx' hx => ?_⟩
   cases x <;> exact hx
  ·split at h
   ·rename_i k first cap hco
    rw [req_iff] at h
    refine .inl ⟨k, first, cap, hco, h.1, SCall.mono (hc (.f k) _ _ _ _ h.2) fun x H' nx' hx => ?_⟩
    cases x <;> exact hx
   ·exact h.elim
 ·rename_i op t x y p0
  have quiet : xq P (.binOp op t x y p0) F H (fun r => K r H nx df) -> (∃ r, aq P (.binOp op t x y p0) F H = some r /\ K r H nx df) \/ (∃ r H' nx', ae P (.binOp op t x y p0) F H nx = some (r, H', nx') /\ K r H' nx' df) \/ (isVar (.binOp op t x y p0) = false /\ AeK P ⟨dst, .binOp op t x y p0, ty, pos, after, guard⟩ F H nx fun r H' nx' => K r H' nx' df) := fun h => by
   obtain ⟨r, h1, h2⟩ := xq_ok h
   exact .inl ⟨r, h1, h2⟩
  have unk : ∀ n, eqNil P t (ev F x) (ev F y) = some n -> (op = .eql \/ op = .neq) -> (∀ b : Bool, (b = true -> n = 0) -> K (.bool (negIf op b)) H nx df) -> (isVar (.binOp op t x y p0) = false /\ AeK P ⟨dst, .binOp op t x y p0, ty, pos, after, guard⟩ F H nx fun r H' nx' => K r H' nx' df) := fun n hn hop hk => by
   refine ⟨rfl, fun base w0 Z φ w ρ hH hr => ?_⟩
   have q1 : Rep Z φ (ev F x) (ρ x) := hr x (by simp [Op.operands])
   have q2 : Rep Z φ (ev F y) (ρ y) := hr y (by simp [Op.operands])
   obtain ⟨b, hb, hrun⟩ := eqNil_ok (ox := x) (oy := y) (w := w) hop hn q1 q2
   exact ⟨_, H, nx, ⟨_, w, Z, φ, run_bind' hrun rfl, .inl ⟨_, rfl, .bool _⟩, ZLe.refl _, PLe.refl _, hH⟩, hk b hb⟩
  have sure : ∀ b, eqRo P t (ev F x) (ev F y) = some b -> (op = .eql \/ op = .neq) -> K (.bool (negIf op b)) H nx df -> (isVar (.binOp op t x y p0) = false /\ AeK P ⟨dst, .binOp op t x y p0, ty, pos, after, guard⟩ F H nx fun r H' nx' => K r H' nx' df) := fun b hn hop hk => by
   refine ⟨rfl, fun base w0 Z φ w ρ hH hr => ?_⟩
   have q1 : Rep Z φ (ev F x) (ρ x) := hr x (by simp [Op.operands])
   have q2 : Rep Z φ (ev F y) (ρ y) := hr y (by simp [Op.operands])
   have hrun := eqRo_ok (ox := x) (oy := y) (w := w) hop hn q1 q2
   exact ⟨_, H, nx, ⟨_, w, Z, φ, run_bind' hrun rfl, .inl ⟨_, rfl, .bool _⟩, ZLe.refl _, PLe.refl _, hH⟩, hk⟩
  split at h
  ·rename_i hn; exact .inr (.inr (sure _ hn (.inl rfl) h))
  ·rename_i hn; exact .inr (.inr (sure _ hn (.inr rfl) h))
  ·split at h
   ·rename_i hn _ _; exact .inr (.inr (unk _ hn (.inl rfl) h))
   ·rename_i hn _ _; exact .inr (.inr (unk _ hn (.inr rfl) h))
   ·split at h
    ·rename_i r hw
     exact .inl ⟨r, by simp only [aq]; exact wrapV_ok hw, h⟩
    ·exact quiet h
 ·exact plainB _ h
 ·rename_i h1 h2 h3 h4 h5
  cases op with
  | convert s d x => exact (h5 s d x rfl).elim
  | binOp op t x y p0 => exact (h4 op t x y p0 rfl).elim
  | panic x => exact (h1 x rfl).elim
  | defer c => exact (h2 c rfl).elim
  | call c =>
   obtain ⟨callee, args, ats⟩ := c
   cases callee with
   | value f => exact (h3 f args ats rfl).elim
   | invoke _ _ => exact plain h
   | builtin _ => exact plain h
  | _ => exact plain h
end Go.Lom

/- Code on unknown contents: what it asks, and what follows: sound. No conditions of its own. -/
namespace Go.Lom
open Go.RowKit
noncomputable def frz (Z : ZMap) (φ : PMap) (H : Heap) (w : World) : ZMap := fun B =>
 match Z B with
 | some o => some o
 | none => open Classical in if ∃ b x l, H.get b = some x /\ φ b = some l /\ l.B = B then w.heap[B]? else none
def selN (l : List Nat) (H : Heap) : Heap := H.filter fun p => l.contains p.1
def dropN (l : List Nat) (H : Heap) : Heap := H.filter fun p => !l.contains p.1
theorem get_filter (f : Nat -> Bool) : ∀ (H : Heap) (b : Nat), Heap.get (H.filter fun p => f p.1) b = if f b = true then H.get b else none
 | [], b => by simp [Heap.get]
 | (c, x) :: H, b => by
  have ih := get_filter f H b
  rw [List.filter_cons]
  split
  ·rename_i hf
   simp only [Heap.get]
   by_cases hb : b = c
   ·subst hb; simp only [if_true]; rw [if_pos hf]
   ·rw [if_neg hb, if_neg hb]; exact ih
  ·rename_i hf
   rw [ih]
   simp only [Heap.get]
   by_cases hb : b = c
   ·subst hb; rw [if_neg hf, if_neg hf]
   ·rw [if_neg hb]
theorem get_selN (l : List Nat) (H : Heap) (b : Nat) : (selN l H).get b = if l.contains b = true then H.get b else none := get_filter (fun b => l.contains b) H b
theorem get_dropN (l : List Nat) (H : Heap) (b : Nat) : (dropN l H).get b = if l.contains b = true then none else H.get b := by
 have := get_filter (fun b => !l.contains b) H b
 unfold dropN
 rw [this]
 cases l.contains b <;> simp
section
variable {base : Nat -> Prop} {w0 : Start} {Z Z' : ZMap} {φ φ' : PMap} {H : Heap} {nx : Nat} {w w' : World}
theorem frz_le (Z : ZMap) (φ : PMap) (H : Heap) (w : World) : ZLe Z (frz Z φ H w) := fun B o h => by unfold frz; rw [h]
theorem frz_own {b : Nat} {x : Blk} {l : Loc} (hb : H.get b = some x) (hl : φ b = some l) (hz : Z l.B = none) : frz Z φ H w l.B = w.heap[l.B]? := by
 unfold frz
 rw [hz]
 simp only
 rw [if_pos ⟨b, x, l, hb, hl, rfl⟩]
theorem frz_froze (h : HRel base w0 Z φ H nx w) : Froze φ H w Z (frz Z φ H w) := ⟨frz_le _ _ _ _, fun b x l hb hl => frz_own hb hl (h.ownAt hb hl).1⟩
theorem frz_cases (B : Nat) : frz Z φ H w B = Z B \/ (Z B = none /\ (∃ b x l, H.get b = some x /\ φ b = some l /\ l.B = B) /\ frz Z φ H w B = w.heap[B]?) := by
 unfold frz
 cases hz : Z B with
 | some o => exact .inl rfl
 | none =>
  simp only
  split
  ·rename_i hc; exact .inr ⟨trivial, hc, rfl⟩
  ·exact .inl rfl
theorem frz_z (h : HRel base w0 Z φ H nx w) : ∀ B o, frz Z φ H w B = some o -> w.heap[B]? = some o := fun B o hB => by
 rcases frz_cases (Z := Z) (φ := φ) (H := H) (w := w) B with h1 | ⟨_, _, h1⟩
 ·rw [h1] at hB; exact h.z B o hB
 ·rw [h1] at hB; exact hB
end
def thV (G : Heap) (τ : Ty) (b : Nat) (v : AV) : AV × List Bool := match v with
 | .sl c s o n cap => match Nat.beq c b with
  | true => match Ty.decV G (.sl τ) (.sl c s o n cap) with
   | some (x, ps) => (.rl τ x, ps)
   | none => (.sl c s o n cap, [])
  | false => (.sl c s o n cap, [])
 | .mp c => match Nat.beq c b, τ with
  | true, .pr κ ν => match Ty.decV G (.mp κ ν) (.mp c) with
   | some (x, ps) => (.rt κ ν x, ps)
   | none => (.mp c, [])
  | _, _ => (.mp c, [])
 | v => (v, [])
def thC (G : Heap) (τ : Ty) (b : Nat) : List AV -> List AV × List Bool
 | [] => ([], [])
 | v :: l => match thV G τ b v, thC G τ b l with
  | (v', ps), (l', qs) => (v' :: l', ps ++ qs)
def thT (G : Heap) (τ : Ty) (b : Nat) (v : AV) : AV × List Bool := match v with
 | .agg cs => match thC G τ b cs with
  | (cs', ps) => (.agg cs', ps)
 | v => thV G τ b v
def thF (G : Heap) (τ : Ty) (b : Nat) : Fr -> Fr × List Bool
 | [] => ([], [])
 | (t, v) :: F => match thT G τ b v, thF G τ b F with
  | (v', ps), (F', qs) => ((t, v') :: F', ps ++ qs)
def thR (G : Heap) (τ : Ty) (b : Nat) : List (List AV) -> List (List AV) × List Bool
 | [] => ([], [])
 | e :: l => match thC G τ b e, thR G τ b l with
  | (e', ps), (l', qs) => (e' :: l', ps ++ qs)
def thB (G : Heap) (τ : Ty) (b : Nat) (x : Blk) : Blk × List Bool := match x with
 | .row s es => match thR G τ b es with
  | (es', ps) => (.row s es', ps)
 | x => (x, [])
def thH (G : Heap) (τ : Ty) (b : Nat) : Heap -> Heap × List Bool
 | [] => ([], [])
 | (c, x) :: H => match thB G τ b x, thH G τ b H with
  | (x', ps), (H', qs) => ((c, x') :: H', ps ++ qs)
def thaw1 (b : Nat) (σ : St) (K : St -> Prop) : Prop := match σ.H.get b with
 | some (.lst τ xs) => match thF (selN [b] σ.H) τ b σ.fr, thH (selN [b] σ.H) τ b (dropN [b] σ.H) with
  | (F', ps), (H', qs) => allP ps (allP qs (K ⟨F', H', σ.nx, σ.df⟩))
 | some (.mp es) => match tyM es with
  | some (κ, ν) => match thF (selN [b] σ.H) (.pr κ ν) b σ.fr, thH (selN [b] σ.H) (.pr κ ν) b (dropN [b] σ.H) with
   | (F', ps), (H', qs) => allP ps (allP qs (K ⟨F', H', σ.nx, σ.df⟩))
  | none => K σ
 | _ => K σ
def thawN : List Nat -> St -> (St -> Prop) -> Prop
 | [], σ, K => K σ
 | b :: l, σ, K => thaw1 b σ fun σ => thawN l σ K
def nameLs : AV -> List Nat
 | .sl b _ _ _ _ => [b]
 | _ => []
def nameTs : AV -> List Nat
 | .agg cs => cs.flatMap nameLs
 | v => nameLs v
def argN (fb : List Nat) (F : Fr) (op : Op) : List Nat := match op with
 | .call c => match c.callee with
  | .builtin .append => []
  | _ => fb ++ (c.args.toList.map (ev F)).flatMap nameTs
 | .buildSlice _ _ ps => (ps.toList.map fun p => ev F p.2).flatMap nameLs
 | .range _ x => match ev F x with
  | .mp b => [b]
  | _ => []
 | _ => []
def thawIf (fz : Bool) (l : List Nat) (σ : St) (K : St -> Prop) : Prop := match fz with
 | true => thawN l σ K
 | false => K σ
section
variable {base : Nat -> Prop} {w0 : Start} {Z Z' : ZMap} {φ : PMap} {H G : Heap} {nx : Nat} {w : World} {τ : Ty} {b : Nat}
theorem thV_ok (hh : OwnR Z φ G w) (hf : Froze φ G w Z Z') (hZ : ZLe Z Z') {v : AV} (hp : ∀ p ∈ (thV G τ b v).2, p = true) {u : Value} (hv : Rep Z φ v u) : Rep Z' φ (thV G τ b v).1 u := by
 unfold thV at hp ⊢
 split at hp
 ·split at hp
  ·split at hp
   ·rename_i hd
    exact decV_ok (t := .sl τ) hh hf hd (fun p h => hp p h) hv
   ·exact hv.mono hZ (PLe.refl _)
  ·exact hv.mono hZ (PLe.refl _)
 ·split at hp
  ·split at hp
   ·rename_i hd
    exact decV_ok (t := .mp _ _) hh hf hd (fun p h => hp p h) hv
   ·exact hv.mono hZ (PLe.refl _)
  ·exact hv.mono hZ (PLe.refl _)
 ·exact hv.mono hZ (PLe.refl _)
theorem thC_ok (hh : OwnR Z φ G w) (hf : Froze φ G w Z Z') (hZ : ZLe Z Z') : ∀ {l : List AV}, (∀ p ∈ (thC G τ b l).2, p = true) -> (thC G τ b l).1.length = l.length /\ ∀ (i : Nat) (v' : AV), (thC G τ b l).1[i]? = some v' -> ∃ v, l[i]? = some v /\ (∀ u, Rep Z φ v u -> Rep Z' φ v' u) /\ (oneC v = true -> oneC v' = true)
 | [], _ => ⟨rfl, fun i v' h => by simp [thC] at h⟩
 | v :: l, hp => by
  simp only [thC] at hp ⊢
  obtain ⟨h1, h2⟩ := thC_ok hh hf hZ (l := l) fun p h => hp p (List.mem_append_right _ h)
  refine ⟨by simp [h1], fun i v' h => ?_⟩
  cases i with
  | zero =>
   simp only [List.getElem?_cons_zero, Option.some.injEq] at h
   subst h
   refine ⟨v, rfl, fun u hu => thV_ok hh hf hZ (fun p h => hp p (List.mem_append_left _ h)) hu, fun ho => ?_⟩
   unfold thV
   split
   ·split
    ·split <;> first | rfl | exact ho
    ·exact ho
   ·split
    ·split <;> first | rfl | exact ho
    ·exact ho
   ·exact ho
  | succ i => exact h2 i v' (by simpa using h)
theorem thT_ok (hh : OwnR Z φ G w) (hf : Froze φ G w Z Z') (hZ : ZLe Z Z') {v : AV} (hp : ∀ p ∈ (thT G τ b v).2, p = true) {u : Value} (hv : Rep Z φ v u) : Rep Z' φ (thT G τ b v).1 u := by
 unfold thT at hp ⊢
 split at hp
 ·rename_i cs
  obtain ⟨h1, h2⟩ := thC_ok hh hf hZ (l := cs) hp
  generalize hc : AV.agg cs = x at hv
  cases hv <;> cases hc
  rename_i us hl h
  refine .agg (by rw [hl, h1]) fun i v' u' hv' hu' => ?_
  obtain ⟨v, g1, g2, _⟩ := h2 i v' hv'
  exact g2 u' (h i v u' g1 hu')
 ·exact thV_ok hh hf hZ hp hv
theorem thF_ok (hh : OwnR Z φ G w) (hf : Froze φ G w Z Z') (hZ : ZLe Z Z') : ∀ {F : Fr}, (∀ p ∈ (thF G τ b F).2, p = true) -> ∀ t u, Rep Z φ (F.get t) u -> Rep Z' φ ((thF G τ b F).1.get t) u
 | [], _, t, u, h => h.mono hZ (PLe.refl _)
 | (c, v) :: F, hp, t, u, h => by
  simp only [thF] at hp ⊢
  simp only [Fr.get] at h ⊢
  by_cases e : t = c
  ·rw [if_pos e] at h ⊢
   exact thT_ok hh hf hZ (fun p h => hp p (List.mem_append_left _ h)) h
  ·rw [if_neg e] at h ⊢
   exact thF_ok hh hf hZ (fun p h => hp p (List.mem_append_right _ h)) t u h
theorem thR_ok (hh : OwnR Z φ G w) (hf : Froze φ G w Z Z') (hZ : ZLe Z Z') : ∀ {es : List (List AV)}, (∀ p ∈ (thR G τ b es).2, p = true) -> (thR G τ b es).1.length = es.length /\ ∀ (i : Nat) (e' : List AV), (thR G τ b es).1[i]? = some e' -> ∃ e, es[i]? = some e /\ e' = (thC G τ b e).1 /\ ∀ p ∈ (thC G τ b e).2, p = true
 | [], _ => ⟨rfl, fun i e' h => by simp [thR] at h⟩
 | e :: es, hp => by
  simp only [thR] at hp ⊢
  obtain ⟨h1, h2⟩ := thR_ok hh hf hZ (es := es) fun p h => hp p (List.mem_append_right _ h)
  refine ⟨by simp [h1], fun i e' h => ?_⟩
  cases i with
  | zero =>
   simp only [List.getElem?_cons_zero, Option.some.injEq] at h
   exact ⟨e, rfl, h.symm, fun p h => hp p (List.mem_append_left _ h)⟩
  | succ i => exact h2 i e' (by simpa using h)
theorem thB_ok (hh : OwnR Z φ G w) (hf : Froze φ G w Z Z') (hZ : ZLe Z Z') {x : Blk} (hp : ∀ p ∈ (thB G τ b x).2, p = true) {l : Loc} (h : blkRel Z φ w l x) : blkRel Z' φ w l (thB G τ b x).1 := by
 unfold thB at hp ⊢
 split at hp
 ·rename_i s es
  obtain ⟨h1, h2⟩ := thR_ok hh hf hZ (es := es) hp
  obtain ⟨g1, g2, c, T, fz, g3, g4, g5, g6⟩ := h
  refine ⟨g1, by rw [h1]; exact g2, c, T, fz, g3, g4, g5, fun i e' hi => ?_⟩
  obtain ⟨e, he, rfl, hpe⟩ := h2 i e' hi
  obtain ⟨q1, q2, q3⟩ := g6 i e he
  obtain ⟨r1, r2⟩ := thC_ok hh hf hZ (l := e) hpe
  refine ⟨by rw [r1]; exact q1, List.all_eq_true.2 fun v' hv' => ?_, fun j v' hj => ?_⟩
  ·obtain ⟨j, hj⟩ := List.mem_iff_getElem?.1 hv'
   obtain ⟨v, hv, _, ho⟩ := r2 j v' hj
   exact ho (List.all_eq_true.1 q2 v (List.mem_iff_getElem?.2 ⟨j, hv⟩))
  ·obtain ⟨v, hv, hr, _⟩ := r2 j v' hj
   obtain ⟨u, hu, hru⟩ := q3 j v hv
   exact ⟨u, hu, hr u hru⟩
 ·exact h.mono hZ (PLe.refl _) rfl
theorem thB_ghost {x : Blk} : (thB G τ b x).1.ghost = x.ghost := by
 unfold thB
 split <;> rfl
theorem thH_get : ∀ {H : Heap} {c : Nat}, (thH G τ b H).1.get c = (H.get c).map fun x => (thB G τ b x).1
 | [], c => rfl
 | (d, x) :: H, c => by
  simp only [thH, Heap.get]
  by_cases e : c = d
  ·rw [if_pos e, if_pos e]; rfl
  ·rw [if_neg e, if_neg e]; exact thH_get
theorem thH_ps : ∀ {H : Heap} {c : Nat} {x : Blk}, H.get c = some x -> (∀ p ∈ (thH G τ b H).2, p = true) -> ∀ p ∈ (thB G τ b x).2, p = true
 | [], c, x, h, _ => by simp [Heap.get] at h
 | (d, y) :: H, c, x, h, hp => by
  simp only [thH] at hp
  simp only [Heap.get] at h
  by_cases e : c = d
  ·rw [if_pos e] at h
   injection h with h
   subst h
   exact fun p h => hp p (List.mem_append_left _ h)
  ·rw [if_neg e] at h
   exact thH_ps h fun p h => hp p (List.mem_append_right _ h)
theorem HRel.freezeN (hH : HRel base w0 Z φ H nx w) (L : List Nat) : HRel base w0 (frz Z φ (selN L H) w) φ (dropN L H) nx w := by
 have hS : Sub (selN L H) H := fun b y hy => by
  rw [get_selN] at hy
  split at hy
  ·exact hy
  ·cases hy
 have hHs := hH.sub hS
 have hf := frz_froze hHs
 refine ⟨hH.below, frz_z hHs, fun B hB hu => ?_, hHs.gl.mono (frz_le _ _ _ _), hH.fnx, fun b y hy => ?_, hH.flt, fun b y hy => ?_, fun b b' y y' l l' hne hy hy' => ?_, fun b y l hy => ?_⟩
 ·rcases frz_cases (Z := Z) (φ := φ) (H := selN L H) (w := w) B with g1 | ⟨_, ⟨b, y, l, hb, hl', rfl⟩, _⟩
  ·rw [g1]; exact hH.z0 B hB hu
  ·have := hHs.ob b y l hb hl' hu; omega
 all_goals rw [get_dropN] at hy
 ·split at hy
  ·cases hy
  ·exact hH.hnx b y hy
 ·split at hy
  ·cases hy
  ·rename_i hc
   rcases hH.own' b y hy with hg | ⟨l, hl1, hz, hrl⟩
   ·exact .inl hg
   ·refine .inr ⟨l, hl1, ?_, hrl.mono (frz_le _ _ _ _) (PLe.refl _) rfl⟩
    rcases frz_cases (Z := Z) (φ := φ) (H := selN L H) (w := w) l.B with g1 | ⟨_, ⟨b2, y2, l2, hb2, hl2, he⟩, _⟩
    ·rw [g1]; exact hz
    ·rw [get_selN] at hb2
     split at hb2
     ·rename_i hc2
      exact absurd he (hH.inj b2 b y2 y l2 l (fun e => hc (e ▸ hc2)) hb2 hy hl2 hl1)
     ·cases hb2
 ·rw [get_dropN] at hy'
  split at hy
  ·cases hy
  ·split at hy'
   ·cases hy'
   ·exact hH.inj b b' y y' l l' hne hy hy'
 ·split at hy
  ·cases hy
  ·exact hH.ob b y l hy
theorem thawT_ok {P : Program} {N : Nat} {σ : St} {a : Act} {K : St -> Prop} (hs : SRel P base w0 Z φ N σ a w) (hp : ∀ p ∈ (thF (selN [b] σ.H) τ b σ.fr).2, p = true) (hq : ∀ p ∈ (thH (selN [b] σ.H) τ b (dropN [b] σ.H)).2, p = true) (hK : K ⟨(thF (selN [b] σ.H) τ b σ.fr).1, (thH (selN [b] σ.H) τ b (dropN [b] σ.H)).1, σ.nx, σ.df⟩) : ∃ Z' σ', ZLe Z Z' /\ SRel P base w0 Z' φ N σ' a w /\ K σ' := by
 have hS : Sub (selN [b] σ.H) σ.H := fun c y hy => by
  rw [get_selN] at hy
  split at hy
  ·exact hy
  ·cases hy
 have hHs := hs.heap.sub hS
 have hf := frz_froze hHs
 have hZ := frz_le Z φ (selN [b] σ.H) w
 have hn := hs.heap.freezeN [b]
 refine ⟨_, ⟨(thF (selN [b] σ.H) τ b σ.fr).1, (thH (selN [b] σ.H) τ b (dropN [b] σ.H)).1, σ.nx, σ.df⟩, hZ, ⟨fun t => thF_ok hHs.ownR hf hZ hp t _ (hs.fr t), hs.size, hs.df.mono hZ (PLe.refl _), ?_⟩, hK⟩
 refine ⟨hn.below, hn.z, hn.z0, hn.gl, hn.fnx, fun c y hy => ?_, hn.flt, fun c y hy => ?_, fun c c' y y' l l' hne hy hy' => ?_, fun c y l hy => ?_⟩
 all_goals
  rw [thH_get] at hy
  obtain ⟨x, hx, rfl⟩ := Option.map_eq_some_iff.1 hy
 ·exact hn.hnx c x hx
 ·have hd : σ.H.get c = some x := by
   rw [get_dropN] at hx
   split at hx
   ·cases hx
   ·exact hx
  rcases hn.own' c x hx with ⟨g1, g2⟩ | ⟨l, g1, g2, g3⟩
  ·exact .inl ⟨by rw [thB_ghost]; exact g1, g2⟩
  ·refine .inr ⟨l, g1, g2, ?_⟩
   exact thB_ok hHs.ownR hf hZ (thH_ps hx hq) (hs.heap.ownAt hd g1).2
 ·rw [thH_get] at hy'
  obtain ⟨x', hx', rfl⟩ := Option.map_eq_some_iff.1 hy'
  exact hn.inj c c' x x' l l' hne hx hx'
 ·exact hn.ob c x l hx
theorem thaw1_ok {P : Program} {N : Nat} {σ : St} {a : Act} {K : St -> Prop} (hs : SRel P base w0 Z φ N σ a w) (h : thaw1 b σ K) : ∃ Z' σ', ZLe Z Z' /\ SRel P base w0 Z' φ N σ' a w /\ K σ' := by
 unfold thaw1 at h
 split at h
 ·simp only [allP_iff] at h
  exact thawT_ok hs h.1 h.2.1 h.2.2
 ·split at h
  ·simp only [allP_iff] at h
   exact thawT_ok hs h.1 h.2.1 h.2.2
  ·exact ⟨Z, σ, ZLe.refl _, hs, h⟩
 ·exact ⟨Z, σ, ZLe.refl _, hs, h⟩
theorem thawN_ok {P : Program} {N : Nat} {a : Act} : ∀ {l : List Nat} {Z : ZMap} {σ : St} {K : St -> Prop}, SRel P base w0 Z φ N σ a w -> thawN l σ K -> ∃ Z' σ', ZLe Z Z' /\ SRel P base w0 Z' φ N σ' a w /\ K σ'
 | [], Z, σ, K, hs, h => ⟨Z, σ, ZLe.refl _, hs, h⟩
 | b :: l, Z, σ, K, hs, h => by
  obtain ⟨Z1, σ1, h1, h2, h3⟩ := thaw1_ok hs h
  obtain ⟨Z2, σ2, g1, g2, g3⟩ := thawN_ok h2 h3
  exact ⟨Z2, σ2, h1.trans g1, g2, g3⟩
theorem thawIf_ok {P : Program} {N : Nat} {σ : St} {a : Act} {K : St -> Prop} {fz : Bool} {l : List Nat} (hs : SRel P base w0 Z φ N σ a w) (h : thawIf fz l σ K) : ∃ Z' σ', ZLe Z Z' /\ SRel P base w0 Z' φ N σ' a w /\ K σ' := by
 cases fz with
 | true => exact thawN_ok hs h
 | false => exact ⟨Z, σ, ZLe.refl _, hs, h⟩
end
def gate (want b : Bool) (p q : Prop) : Prop :=
 match want, b with
 | true, true => p
 | false, false => p
 | _, _ => q
def xops (P : Program) (N : Nat) (call : CallX) (ops : Array Oper) : List Oper -> (AX -> St -> Prop) -> St -> Prop
  | [], K, σ => K .normal σ
  | o :: rest, K, σ => req (dstOk N o)
    (let run : St -> Prop := fun σ => thawIf call.fz (argN call.fb σ.fr o.op) σ fun σ => xop P call o σ.fr σ.H σ.nx σ.df (fun r H nx df => xops P N call ops rest K ⟨σ.fr.put o.dst r, H, nx, df⟩) (fun v H nx => K (.panic v) ⟨σ.fr, H, nx, σ.df⟩)
     let pass : St -> Prop := fun σ => xops P N call ops rest K { σ with fr := σ.fr.put o.dst skipV }
     match o.guard with
     | none => run σ
     | some (j, want) => match (ops[j]?).bind (·.dst) with
       | some d => match σ.fr.get d with
         | .bool b => fork b (gate want true (run { σ with fr := (d, .bool true) :: σ.fr }) (pass { σ with fr := (d, .bool true) :: σ.fr })) (gate want false (run { σ with fr := (d, .bool false) :: σ.fr }) (pass { σ with fr := (d, .bool false) :: σ.fr }))
         | .tup [] => pass σ
         | _ => False
       | none => False)
section
variable {P : Program} {N n0 : Nat} {call : CallX} {ops : Array Oper} {Q : AX -> St -> Prop}
theorem fr_lit {base : Nat -> Prop} {w0 : Start} {Z : ZMap} {φ : PMap} {σ : St} {a : Act} {w : World} {d : Nat} {b : Bool} (hs : SRel P base w0 Z φ N σ a w) (hd : σ.fr.get d = .bool b) : SRel P base w0 Z φ N { σ with fr := (d, .bool b) :: σ.fr } a w := by
 refine ⟨fun t => ?_, hs.size, hs.df, hs.heap⟩
 simp only [Fr.get]
 by_cases ht : t = d
 ·subst ht; rw [if_pos rfl, <- hd]; exact hs.fr t
 ·rw [if_neg ht]; exact hs.fr t
theorem xops_ok {ro : Option Nat} (hro : OpsRo ro ops) (hc : CallXOk P call) : ∀ (l : List Oper) (k : Nat), (∀ j, l[j]? = ops[k + j]?) -> ∀ (σ : St), xops P N call ops l Q σ ->
  ∀ base w0 Z φ a w, SRel P base w0 Z φ N σ a w -> opsW ro P ops (Lift P base w0 N n0 Z φ Q) (List.range' k l.length) a w
 | [], k, _, σ, h, base, w0, Z, φ, a, w, hs => ⟨Z, φ, .normal, σ, ZLe.refl _, PLe0.refl _ _, trivial, hs, h⟩
 | o :: l, k, hl, σ, h, base, w0, Z, φ, a, w, hs => by
  have h0 : ops[k]? = some o := by simpa using (hl 0).symm
  have ih := xops_ok hro hc l (k + 1) (fun j => by have := hl (j + 1); simpa [Nat.add_assoc, Nat.add_comm 1 j] using this)
  simp only [List.length_cons, List.range'_succ, opsW, h0]
  simp only [xops] at h
  rw [req_iff] at h
  obtain ⟨hd, h⟩ := h
  have step0 : ∀ (Z : ZMap) (σ : St), SRel P base w0 Z φ N σ a w -> xop P call o σ.fr σ.H σ.nx σ.df (fun r H nx df => xops P N call ops l Q ⟨σ.fr.put o.dst r, H, nx, df⟩) (fun v H nx => Q (.panic v) ⟨σ.fr, H, nx, σ.df⟩) ->
    opW ro P o a w (opsW ro P ops (Lift P base w0 N n0 Z φ Q) (List.range' (k + 1) l.length)) (Lift P base w0 N n0 Z φ Q) := fun Z σ hs hop =>
   wp_op (hro.at h0) (K := xops P N call ops l Q) hd (xop_ok hc hop) hs fun Z' φ' σ' a' w' hZ hφ hs' hk => opsW_mono (fun e a w hl => hl.mono hZ hφ.to0 fun _ _ h => h) (ih σ' hk base w0 Z' φ' a' w' hs')
  have step : ∀ σ : St, SRel P base w0 Z φ N σ a w -> (thawIf call.fz (argN call.fb σ.fr o.op) σ fun σ => xop P call o σ.fr σ.H σ.nx σ.df (fun r H nx df => xops P N call ops l Q ⟨σ.fr.put o.dst r, H, nx, df⟩) (fun v H nx => Q (.panic v) ⟨σ.fr, H, nx, σ.df⟩)) ->
    opW ro P o a w (opsW ro P ops (Lift P base w0 N n0 Z φ Q) (List.range' (k + 1) l.length)) (Lift P base w0 N n0 Z φ Q) := fun σ hs hop => by
   obtain ⟨Z1, σ1, g1, g2, g3⟩ := thawIf_ok hs hop
   exact opW_mono (fun a w h => opsW_mono (fun e a w hl => hl.mono g1 (PLe0.refl _ _) fun _ _ h => h) h) (fun e a w hl => hl.mono g1 (PLe0.refl _ _) fun _ _ h => h) (step0 Z1 σ1 g2 g3)
  have pass : ∀ σ : St, SRel P base w0 Z φ N σ a w -> xops P N call ops l Q { σ with fr := σ.fr.put o.dst skipV } -> opsW ro P ops (Lift P base w0 N n0 Z φ Q) (List.range' (k + 1) l.length) (a.put o.dst Go.undef) w := fun σ hs hx => by
   have hlt := dstOk_lt hd hs.size
   refine ih _ hx base w0 Z φ _ w ⟨hs.fr.put hlt (rep_skip _ _), ?_, ?_, hs.heap⟩
   ·cases hdst : o.dst <;> simp [Act.put, hs.size]
   ·have : (a.put o.dst Go.undef).defers = a.defers := by cases hdst : o.dst <;> simp [Act.put]
    rw [this]; exact hs.df
  cases hg : o.guard with
  | none =>
   rw [hg] at h
   have hw : Region.wanted o (yielded ops a.tmps) = true := by simp [Region.wanted, hg]
   rw [if_pos hw]
   exact step σ hs h
  | some p =>
   obtain ⟨j, want⟩ := p
   rw [hg] at h
   simp only at h
   split at h
   rotate_left
   ·exact h.elim
   rename_i d hdj
   have gv : ∀ b, σ.fr.get d = .bool b -> guardV ops σ.fr j = some (some b) := fun b hb => by simp [guardV, hdj, hb, yieldOf]
   split at h
   ·rename_i b hb
    have hy := guard_yielded hs.fr hs.size (gv b hb)
    rw [fork_iff] at h
    have wt : ∀ c, b = c -> (Region.wanted o (yielded ops a.tmps) = true ↔ c = want) := fun c hbc => by
     subst hbc
     simp only [Region.wanted, hg, hy]
     cases b <;> cases want <;> simp
    cases hbv : b with
    | true =>
     have hlit := fr_lit hs (by rw [hb, hbv])
     have h := h.1 hbv
     cases want with
     | true => rw [if_pos ((wt true hbv).2 rfl)]; exact step _ hlit h
     | false => rw [if_neg (fun e => by cases (wt true hbv).1 e)]; exact pass _ hlit h
    | false =>
     have hlit := fr_lit hs (by rw [hb, hbv])
     have h := h.2 hbv
     cases want with
     | true => rw [if_neg (fun e => by cases (wt false hbv).1 e)]; exact pass _ hlit h
     | false => rw [if_pos ((wt false hbv).2 rfl)]; exact step _ hlit h
   ·rename_i hb
    have hgv : guardV ops σ.fr j = some none := by simp [guardV, hdj, hb, yieldOf]
    have hy := guard_yielded hs.fr hs.size hgv
    have hw : ¬ Region.wanted o (yielded ops a.tmps) = true := by simp [Region.wanted, hg, hy]
    rw [if_neg hw]
    exact pass σ hs h
   ·exact h.elim
theorem swp_xops (hc : CallXOk P call) {id : Nat} {σ : St} (h : xops P N call ops ops.toList Q σ) : SWp P N n0 (.region id ops false) Q σ := by
 intro ro base w0 Z φ a w hro hs
 refine wpIn_region (opsW_in _ _ _ ?_)
 have := xops_ok (n0 := n0) (Q := Q) hro.region hc ops.toList 0 (fun j => by simp) σ h base w0 Z φ a w hs
 rw [List.range_eq_range']
 simpa using this
end
def makeL (P : Program) (t : TypeId) (x y : AV) : Option (AV × Bool) :=
 match x, y, sliceElem P t with
 | .int _ n, .int _ m, some e => match szOf P e, bytesOf P e, zeroCellsOf P e with
  | some s, some by_, some z => match tyZ z with
   | some τ => if z.length = s then some (.rl τ (List.replicate n.toNat τ.dflt), decide (0 <= n /\ n <= m /\ (by_ : Int) * m <= 281474976710656 /\ m <= 281474976710656)) else none
   | none => none
  | _, _, _ => none
 | _, _, _ => none
theorem makeL_ok {P : Program} {t : TypeId} {x y r : AV} (h : makeL P t x y = some (r, true)) : lateMk P t (amakeSlice P t x y [] 0) = some r := by
 unfold makeL at h
 split at h
 ·rename_i k1 n k2 m e he
  split at h
  ·rename_i s by_ z hs hby hz
   split at h
   ·rename_i τ hτ
    split at h
    ·rename_i hzl
     simp only [Option.some.injEq, Prod.mk.injEq] at h
     obtain ⟨rfl, hc⟩ := h
     have hc := of_decide_eq_true hc
     have ham : amakeSlice P t (.int k1 n) (.int k2 m) [] 0 = some (.sl 0 s 0 n.toNat (some m.toNat), Heap.set [] 0 (.row s (List.replicate m.toNat z)), 1) := by
      simp only [amakeSlice, he, hs, hby, hz, asI, Option.bind_eq_bind, Option.bind_some]
      rw [if_pos ⟨hzl, hc.1, hc.2.1, hc.2.2.1, hc.2.2.2⟩]
     rw [ham]
     simp only [lateMk, Heap.get_set, if_pos, he, Option.bind_some, hz, mkTy, hτ]
    ·cases h
   ·cases h
  ·cases h
 ·cases h
def xlate (wr ip : Bool) (P : Program) (op : Op) (F : Fr) (H : Heap) (K : AV -> Prop) : Prop :=
 match op with
 | .buildSlice t len ps => optK (lateV P (.buildSlice t len ps) F H) K
 | .makeSlice t l c => match makeL P t (ev F l) (ev F c) with
  | some (r, b) => req b (K r)
  | none => False
 | .binOp op t x y p => match wrapV wr op (ev F x) (ev F y) with
  | some r => K r
  | none => xq P (.binOp op t x y p) F H K
 | op => xqN ip P op F H K
theorem xlate_ok {wr ip : Bool} {P : Program} {op : Op} {F : Fr} {H : Heap} {K : AV -> Prop} (h : xlate wr ip P op F H K) : ∃ r, lateV P op F H = some r /\ K r := by
 unfold xlate at h
 split at h
 ·exact optK_iff.1 h
 ·rename_i t l c
  split at h
  ·rename_i r b hm
   obtain ⟨hb, h⟩ := req_iff.1 h
   subst hb
   exact ⟨r, by simp only [lateV]; exact makeL_ok hm, h⟩
  ·exact h.elim
 ·rename_i op t x y p
  split at h
  ·rename_i r hw
   exact ⟨r, by simp only [lateV, aq]; exact wrapV_ok hw, h⟩
  ·obtain ⟨r, h1, h2⟩ := xq_ok h
   exact ⟨r, h1, h2⟩
 ·rename_i hb hb2 _
  obtain ⟨r, h1, h2⟩ := xqN_ok h
  rcases lateV_cases P F F H H op with (⟨t, len, ps, rfl⟩ | ⟨t, l, c, rfl⟩) | ⟨h3, _⟩
  ·exact (hb t len ps rfl).elim
  ·exact (hb2 t l c rfl).elim
  ·exact ⟨r, by rw [h3]; exact h1, h2⟩
def holdsV (o : Option Nat) (F : Fr) (r : AV) : Prop := match o with
 | some d => F.get d = r
 | none => True
def xstab (P : Program) (ops : Array Oper) (ms : List Nat) (i : Nat) (F : Fr) (H : Heap) : List Nat -> Prop -> Prop
 | [], K => K
 | p :: l, K => match preB ms p i with
  | true => xstab P ops ms i F H l K
  | false => (match ops[p]? with
   | some o => xq P o.op F H (holdsV o.dst F)
   | none => True) /\ xstab P ops ms i F H l K
theorem xstab_ok {P : Program} {ops : Array Oper} {ms : List Nat} {i : Nat} {F : Fr} {H : Heap} {K : Prop} : ∀ (l : List Nat), xstab P ops ms i F H l K -> (∀ p ∈ l, preB ms p i = false -> stable P ops F H p) /\ K
 | [], h => ⟨fun p hp => by simp at hp, h⟩
 | p :: l, h => by
  unfold xstab at h
  split at h
  ·rename_i hpre
   obtain ⟨h1, h2⟩ := xstab_ok l h
   refine ⟨fun q hq hqp => ?_, h2⟩
   rcases List.mem_cons.1 hq with rfl | hq
   ·rw [hpre] at hqp; cases hqp
   ·exact h1 q hq hqp
  ·obtain ⟨h0, h⟩ := h
   obtain ⟨h1, h2⟩ := xstab_ok l h
   refine ⟨fun q hq hqp => ?_, h2⟩
   rcases List.mem_cons.1 hq with rfl | hq
   ·unfold stable
    split at h0
    ·rename_i o ho
     rw [ho]
     obtain ⟨r, hr, hs⟩ := xq_ok h0
     exact ⟨r, hr, fun d hd => by rw [hd] at hs; exact hs⟩
    ·rename_i ho; rw [ho]; trivial
   ·exact h1 q hq hqp
def consIf (b : Bool) (i : Nat) (l : List Nat) : List Nat := match b with
 | true => i :: l
 | false => l
theorem consIf_eq (b : Bool) (i : Nat) (l : List Nat) : consIf b i l = if b then i :: l else l := by cases b <;> rfl
def setLit (d : Nat) (b : Bool) : Fr -> Fr
 | [] => []
 | (t, v) :: l => match Nat.beq t d with
  | true => (t, match v with | .bool _ => .bool b | v => v) :: l
  | false => (t, v) :: setLit d b l
theorem setLit_eq {d : Nat} {b : Bool} : ∀ {F : Fr}, F.get d = .bool b -> setLit d b F = F
 | [], _ => rfl
 | (t, v) :: l, h => by
  unfold setLit
  simp only [Fr.get] at h
  split
  ·rename_i e
   have e := Nat.eq_of_beq_eq_true e
   rw [if_pos e.symm] at h
   subst h
   rfl
  ·rename_i e
   have e : ¬ d = t := fun e' => by subst e'; simp at e
   rw [if_neg e] at h
   rw [setLit_eq h]
def slotOf (ops : Array Oper) (j : Nat) : Nat := match (ops[j]?).bind (·.dst) with
 | some d => d
 | none => 0
theorem setLit_guard {ops : Array Oper} {F : Fr} {j : Nat} {b : Bool} (h : guardV ops F j = some (some b)) : setLit (slotOf ops j) b F = F := by
 unfold guardV at h
 unfold slotOf
 split at h
 ·rename_i d hd
  rw [hd]
  refine setLit_eq ?_
  unfold yieldOf at h
  split at h <;> simp_all
 ·simp at h
def xreg (P : Program) (N : Nat) (call : CallX) (ops : Array Oper) (ms : List Nat) (K : AX -> St -> Prop) : List Nat -> List Nat -> List Nat -> St -> Prop
  | [], seen, pend, σ => K .normal σ
  | i :: rest, seen, pend, σ => match ops[i]? with
    | none => False
    | some o => req (dstOk N o)
      (let run : St -> Prop := fun σ => match freeB ops ms seen o with
        | true => xlate call.wr call.ip P o.op σ.fr σ.H (fun r => xreg P N call ops ms K rest (i :: seen) (consIf (readsQ o.op) i pend) { σ with fr := σ.fr.put o.dst r })
        | false => xop P call o σ.fr σ.H σ.nx σ.df (fun r H nx df => xstab P ops ms i (σ.fr.put o.dst r) H pend (xreg P N call ops ms K rest (i :: seen) pend ⟨σ.fr.put o.dst r, H, nx, df⟩)) (fun v H nx => K (.panic v) ⟨forget ops σ.fr, H, nx, σ.df⟩)
       let pass : St -> Prop := fun σ => xreg P N call ops ms K rest (i :: seen) pend { σ with fr := σ.fr.put o.dst skipV }
       match o.guard with
       | none => run σ
       | some (j, want) => match guardV ops σ.fr j with
         | some none => pass σ
         | some (some b) => fork b (gate want true (run { σ with fr := setLit (slotOf ops j) true σ.fr }) (pass { σ with fr := setLit (slotOf ops j) true σ.fr })) (gate want false (run { σ with fr := setLit (slotOf ops j) false σ.fr }) (pass { σ with fr := setLit (slotOf ops j) false σ.fr }))
         | none => False)
theorem SOpR.mono {P : Program} {o : Oper} {F : Fr} {H : Heap} {nx : Nat} {df : List ADef} {K K' : AV -> Heap -> Nat -> List ADef -> Prop} {QP : AV -> Heap -> Nat -> Prop} (hk : ∀ r H nx df, K r H nx df -> K' r H nx df) (h : SOpR P o F H nx df K QP) : SOpR P o F H nx df K' QP := by
 obtain ⟨dst, op, ty, pos, after, guard⟩ := o
 have plain : ∀ op : Op, ((∃ r, aq P op F H = some r /\ K r H nx df) \/ (∃ r H' nx', ae P op F H nx = some (r, H', nx') /\ K r H' nx' df) \/ (isVar op = false /\ AeK P ⟨dst, op, ty, pos, after, guard⟩ F H nx fun r H' nx' => K r H' nx' df)) ->
   ((∃ r, aq P op F H = some r /\ K' r H nx df) \/ (∃ r H' nx', ae P op F H nx = some (r, H', nx') /\ K' r H' nx' df) \/ (isVar op = false /\ AeK P ⟨dst, op, ty, pos, after, guard⟩ F H nx fun r H' nx' => K' r H' nx' df)) := by
  rintro op (⟨r, h1, h2⟩ | ⟨r, H', nx', h1, h2⟩ | ⟨h0, h1⟩)
  ·exact .inl ⟨r, h1, hk _ _ _ _ h2⟩
  ·exact .inr (.inl ⟨r, H', nx', h1, hk _ _ _ _ h2⟩)
  ·exact .inr (.inr ⟨h0, fun base w0 Z φ w ρ hH hr => let ⟨r, H', nx', h2, h3⟩ := h1 base w0 Z φ w ρ hH hr; ⟨r, H', nx', h2, hk _ _ _ _ h3⟩⟩)
 cases op with
 | panic x => exact h
 | defer c =>
  obtain ⟨callee, args, ats⟩ := c
  cases callee with
  | value f =>
   obtain ⟨k, first, cap, h1, h2, h3⟩ := h
   exact ⟨k, first, cap, h1, h2, hk _ _ _ _ h3⟩
  | invoke _ _ => exact h
  | builtin _ => exact h
 | call c =>
  obtain ⟨callee, args, ats⟩ := c
  cases callee with
  | value f =>
   rcases h with ⟨k, first, cap, h1, h2, h3⟩ | ⟨b, h1, h2⟩
   ·exact .inl ⟨k, first, cap, h1, h2, h3.mono fun x H' nx' hx => by cases x with
    | ret v => exact hk _ _ _ _ hx
    | panic v => exact hx⟩
   ·exact .inr ⟨b, h1, h2.mono fun x H' nx' hx => by cases x with
    | ret v => exact hk _ _ _ _ hx
    | panic v => exact hx⟩
  | invoke _ _ => exact plain _ h
  | builtin _ => exact plain _ h
 | _ => exact plain _ h
theorem xreg_ok {P : Program} {N : Nat} {call : CallX} (hc : CallXOk P call) {ops : Array Oper} {ms : List Nat} {K : AX -> St -> Prop} : ∀ (l seen pend : List Nat) (σ : St), xreg P N call ops ms K l seen pend σ -> VReg P N ops ms K l seen pend σ
 | [], seen, pend, σ, h => h
 | i :: l, seen, pend, σ, h => by
  unfold xreg at h
  unfold VReg
  split at h
  ·exact h.elim
  rename_i o ho
  rw [ho]
  simp only
  rw [req_iff] at h
  refine ⟨h.1, ?_⟩
  have h := h.2
  simp only at h
  have run : (match freeB ops ms seen o with
    | true => xlate call.wr call.ip P o.op σ.fr σ.H (fun r => xreg P N call ops ms K l (i :: seen) (consIf (readsQ o.op) i pend) { σ with fr := σ.fr.put o.dst r })
    | false => xop P call o σ.fr σ.H σ.nx σ.df (fun r H nx df => xstab P ops ms i (σ.fr.put o.dst r) H pend (xreg P N call ops ms K l (i :: seen) pend ⟨σ.fr.put o.dst r, H, nx, df⟩)) (fun v H nx => K (.panic v) ⟨forget ops σ.fr, H, nx, σ.df⟩)) ->
    (if freeB ops ms seen o then ∃ r, lateV P o.op σ.fr σ.H = some r /\ VReg P N ops ms K l (i :: seen) (if readsQ o.op then i :: pend else pend) { σ with fr := σ.fr.put o.dst r }
    else SOpR P o σ.fr σ.H σ.nx σ.df (fun r H nx df => (∀ p ∈ pend, preB ms p i = false -> stable P ops (σ.fr.put o.dst r) H p) /\ VReg P N ops ms K l (i :: seen) pend ⟨σ.fr.put o.dst r, H, nx, df⟩)
     (fun v H nx => K (.panic v) ⟨forget ops σ.fr, H, nx, σ.df⟩)) := by
   intro hr
   split at hr
   ·rename_i hf
    rw [if_pos hf]
    obtain ⟨r, h1, h2⟩ := xlate_ok hr
    refine ⟨r, h1, ?_⟩
    rw [<- consIf_eq]
    exact xreg_ok hc l _ _ _ h2
   ·rename_i hf
    rw [if_neg (by rw [hf]; simp)]
    exact (xop_ok hc hr).mono fun r H nx df hx => let ⟨h1, h2⟩ := xstab_ok _ hx; ⟨h1, xreg_ok hc l _ _ _ h2⟩
  have pass : xreg P N call ops ms K l (i :: seen) pend { σ with fr := σ.fr.put o.dst skipV } -> VReg P N ops ms K l (i :: seen) pend { σ with fr := σ.fr.put o.dst skipV } := fun h => xreg_ok hc l _ _ _ h
  cases hg : o.guard with
  | none => rw [hg] at h; exact run h
  | some p =>
   obtain ⟨j, want⟩ := p
   rw [hg] at h
   simp only at h ⊢
   split at h
   ·rename_i hgv
    exact ⟨none, hgv, (fun e => nomatch e), fun _ => pass h⟩
   ·rename_i b hgv
    have hlit := setLit_guard hgv
    refine ⟨some b, hgv, fun e => ?_, fun e => ?_⟩
    ·injection e with e; subst e
     cases b <;> (simp only [hlit] at h; exact run h)
    ·have e : b ≠ want := fun e' => e (by rw [e'])
     cases b <;> cases want <;> first | exact absurd rfl e | (simp only [hlit] at h; exact pass h)
   ·exact h.elim
def nLoops : Code -> Nat
 | .seq a b => nLoops a + nLoops b
 | .cond _ a b => nLoops a + nLoops b
 | .block _ c => nLoops c
 | .scope c => nLoops c
 | .loop c => nLoops c + 1
 | _ => 0
def loopsOf : Code -> List Code
 | .seq a b => loopsOf a ++ loopsOf b
 | .cond _ a b => loopsOf a ++ loopsOf b
 | .block _ c => loopsOf c
 | .scope c => loopsOf c
 | .loop c => c :: loopsOf c
 | _ => []
theorem loopsOf_length : ∀ c : Code, (loopsOf c).length = nLoops c := by
 intro c
 induction c <;> simp_all [loopsOf, nLoops]
def litSlot (c : Operand) (b : Bool) (σ : St) : St :=
 match c with
 | .tmp d => { σ with fr := (d, .bool b) :: σ.fr }
 | _ => σ
abbrev LoopX := Nat -> St -> (AX -> St -> Prop) -> Prop
def afterX (K : AX -> St -> Prop) : Option Code -> St -> Prop
 | none, σ => K .normal σ
 | some .ret, σ => K .ret σ
 | some (.exit id), σ => K (.exit id) σ
 | _, _ => False
def rangedX (K : AX -> St -> Prop) (fr : Fr) (nx : Nat) (df : List ADef) : AE -> Heap -> Nat -> Prop := fun x H' nx' => match x with
 | .ret _ => match H'.get (nx + 1) with
  | some (.lp .busy _ _ _ _ _ _) => False
  | some (.lp _ pend _ _ _ _ _) => afterX K pend ⟨fr, H'.del (nx + 1), nx', .mark nx :: df⟩
  | _ => False
 | .panic _ => False
def xrange (P : Program) (N : Nat) (call : CallX) (g : Operand) (ps : Array Tmp) (asg body : Code) (K : AX -> St -> Prop) (σ : St) : Prop :=
 match calleeOf (ev σ.fr g) with
 | some (k, first, cap) => req (funcOk P k) (call (.f k) (first ++ [.yf (σ.nx + 1)] ++ cap) ((σ.H.set σ.nx .dfs).set (σ.nx + 1) (.lp .ready none σ.fr N ps.toList asg body)) (σ.nx + 2) (rangedX K σ.fr σ.nx σ.df))
 | none => False
theorem afterX_ok {K : AX -> St -> Prop} {p : Option Code} {σ : St} (h : afterX K p σ) : afterQ K p σ := by
 unfold afterX at h
 split at h <;> first | exact h | exact h.elim
theorem xrange_ok {P : Program} {N n0 : Nat} {call : CallX} (hc : CallXOk P call) {g : Operand} {ps : Array Tmp} {asg body : Code} {K : AX -> St -> Prop} {σ : St} (h : xrange P N call g ps asg body K σ) : SWp P N n0 (.rangeFunc g ps asg body) K σ := by
 unfold xrange at h
 split at h
 ·rename_i k first cap hg
  rw [req_iff] at h
  refine swp_range hg h.1 (SCall.mono (hc (.f k) _ _ _ _ h.2) fun x H' nx' hx => ?_)
  unfold rangedX at hx
  cases x with
  | panic v => exact hx.elim
  | ret v =>
   simp only at hx ⊢
   split at hx
   ·exact hx.elim
   ·rename_i st pend F M qs c1 c2 hne hget
    exact ⟨st, pend, F, M, qs, c1, c2, hget, fun e => hne e, afterX_ok hx⟩
   ·exact hx.elim
 ·exact h.elim
def xc (P : Program) (N : Nat) (call : CallX) (lf : LoopX) : Code -> Nat -> (AX -> St -> Prop) -> St -> Prop
 | .skip, _, K, σ => K .normal σ
 | .region _ ops draw, _, K, σ => match draw with
  | true => req (P.follows .mixedOrders && regOk ops (masks ops.toList []) (orderOf ops) [] && earlyOk P N ops) (xreg P N call ops (masks ops.toList []) K (orderOf ops) [] [] σ)
  | false => xops P N call ops ops.toList K σ
 | .seq a b, j, K, σ => xc P N call lf a j (AX.then (xc P N call lf b (j + nLoops a) K) K) σ
 | .cond c a b, j, K, σ => match ev σ.fr c with
  | .bool t => fork t (xc P N call lf a j K (litSlot c true σ)) (xc P N call lf b (j + nLoops a) K (litSlot c false σ))
  | _ => False
 | .block id c, j, K, σ => xc P N call lf c j (AX.inBlock id K) σ
 | .loop _, j, K, σ => lf j σ K
 | .scope c, j, K, σ => xc P N call lf c j K σ
 | .label _, _, K, σ => K .normal σ
 | .exit id, _, K, σ => K (.exit id) σ
 | .ret, _, K, σ => K .ret σ
 | .rangeFunc g ps asg body, _, K, σ => xrange P N call g ps asg body K σ
 | _, _, _, _ => False
def LoopsOk (P : Program) (N n0 : Nat) (lf : LoopX) (j : Nat) (l : List Code) : Prop := ∀ i c, l[i]? = some c -> ∀ σ Q, lf (j + i) σ Q -> SWp P N n0 (.loop c) Q σ
theorem LoopsOk.left {P : Program} {N n0 : Nat} {lf : LoopX} {j : Nat} {a b : List Code} (h : LoopsOk P N n0 lf j (a ++ b)) : LoopsOk P N n0 lf j a := fun i c hi => h i c (by rw [List.getElem?_append_left (List.getElem?_eq_some_iff.1 hi).1]; exact hi)
theorem LoopsOk.right {P : Program} {N n0 : Nat} {lf : LoopX} {j : Nat} {a b : List Code} (h : LoopsOk P N n0 lf j (a ++ b)) : LoopsOk P N n0 lf (j + a.length) b := fun i c hi σ Q hq => h (a.length + i) c (by rw [List.getElem?_append_right (by omega)]; simpa using hi) σ Q (by rw [<- Nat.add_assoc]; exact hq)
theorem swp_lit {P : Program} {N n0 : Nat} {c : Operand} {b : Bool} {x : Code} {Q : AX -> St -> Prop} {σ : St} (hc : ev σ.fr c = .bool b) (h : SWp P N n0 x Q (litSlot c b σ)) : SWp P N n0 x Q σ := by
 cases c with
 | tmp d => exact fun ro base w0 Z φ a w hro hs => h ro base w0 Z φ a w hro (fr_lit hs hc)
 | _ => exact h
theorem xc_ok {P : Program} {N n0 : Nat} {call : CallX} {lf : LoopX} (hc : CallXOk P call) : ∀ (c : Code) (j : Nat) (K : AX -> St -> Prop) (σ : St), LoopsOk P N n0 lf j (loopsOf c) -> xc P N call lf c j K σ -> SWp P N n0 c K σ
 | .skip, j, K, σ, hl, h => swp_skip h
 | .region id ops draw, j, K, σ, hl, h => by
  simp only [xc] at h
  cases draw with
  | true =>
   simp only [req_iff, Bool.and_eq_true] at h
   exact swp_draw h.1.1.1 (orderOf ops) h.1.1.2 h.1.2 (xreg_ok hc _ _ _ _ h.2)
  | false => exact swp_xops hc h
 | .seq a b, j, K, σ, hl, h => by
  simp only [xc] at h
  refine swp_seq ((xc_ok hc a j _ σ hl.left h).mono fun x τ hx => ?_)
  cases x with
  | normal => exact xc_ok hc b _ K τ (by have := hl.right; rwa [loopsOf_length] at this) hx
  | exit i => exact hx
  | ret => exact hx
  | panic v => exact hx
 | .cond c a b, j, K, σ, hl, h => by
  simp only [xc] at h
  split at h
  ·rename_i t ht
   rw [fork_iff] at h
   exact swp_cond ht (fun e => swp_lit (by rw [ht, e]) (xc_ok hc a j K _ hl.left (h.1 e))) fun e => swp_lit (by rw [ht, e]) (xc_ok hc b _ K _ (by have := hl.right; rwa [loopsOf_length] at this) (h.2 e))
  ·exact h.elim
 | .block id c, j, K, σ, hl, h => swp_block (xc_ok hc c j _ σ hl h)
 | .loop c, j, K, σ, hl, h => hl 0 c rfl σ K h
 | .scope c, j, K, σ, hl, h => swp_scope (xc_ok hc c j K σ hl h)
 | .label l, j, K, σ, hl, h => swp_label h
 | .exit id, j, K, σ, hl, h => swp_exit h
 | .ret, j, K, σ, hl, h => swp_ret h
 | .goto _, _, _, _, _, h => h.elim
 | .rangeFunc _ _ _ _, _, _, _, _, h => xrange_ok hc h
 | .refuse _, _, _, _, _, h => h.elim
def xres1 (P : Program) (F : Fr) (H : Heap) : ResultVar -> Option (AV × List Bool)
 | .tmp t => some (F.get t, [])
 | .cell a t => match qLoad P t (F.get a) H with
  | some q => some q
  | none => match ald P t (F.get a) H with
   | some r => some (r, [])
   | none => none
def xresL (P : Program) (F : Fr) (H : Heap) : List ResultVar -> Option (List AV × List Bool)
 | [] => some ([], [])
 | r :: l => match xres1 P F H r with
  | some (v, ps) => match xresL P F H l with
   | some (vs, qs) => some (v :: vs, ps ++ qs)
   | none => none
  | none => none
theorem xres1_ok {P : Program} {F : Fr} {H : Heap} {r : ResultVar} {v : AV} {ps : List Bool} (h : xres1 P F H r = some (v, ps)) (hp : ∀ p ∈ ps, p = true) : ares1 P F H r = some v := by
 unfold xres1 at h
 split at h
 ·simp only [Option.some.injEq, Prod.mk.injEq] at h
  obtain ⟨rfl, rfl⟩ := h; rfl
 ·split at h
  ·rename_i q hq
   injection h with h; subst h
   exact qLoad_ok hq hp
  ·split at h
   ·rename_i r hr
    simp only [Option.some.injEq, Prod.mk.injEq] at h
    obtain ⟨rfl, rfl⟩ := h
    exact hr
   ·cases h
theorem xresL_ok {P : Program} {F : Fr} {H : Heap} : ∀ {l : List ResultVar} {vs : List AV} {ps : List Bool}, xresL P F H l = some (vs, ps) -> (∀ p ∈ ps, p = true) -> l.mapM (ares1 P F H) = some vs
 | [], vs, ps, h, hp => by
  simp only [xresL, Option.some.injEq, Prod.mk.injEq] at h
  obtain ⟨rfl, rfl⟩ := h; rfl
 | r :: l, vs, ps, h, hp => by
  unfold xresL at h
  split at h
  ·rename_i v qs hr
   split at h
   ·rename_i us rs hl
    simp only [Option.some.injEq, Prod.mk.injEq] at h
    obtain ⟨rfl, rfl⟩ := h
    have h1 := xres1_ok hr fun p hp' => hp p (List.mem_append_left _ hp')
    have h2 := xresL_ok hl fun p hp' => hp p (List.mem_append_right _ hp')
    rw [List.mapM_cons, h1, h2]; rfl
   ·cases h
  ·cases h
def xretK (P : Program) (fn : Func) (R : AE -> Heap -> Nat -> Prop) (F : Fr) (H : Heap) (nx : Nat) : Prop := match xresL P F H fn.results.toList with
 | some (vs, ps) => allP ps (R (.ret (tupOf vs)) H nx)
 | none => False
theorem xretK_ok {P : Program} {fn : Func} {R : AE -> Heap -> Nat -> Prop} {F : Fr} {H : Heap} {nx : Nat} (h : xretK P fn R F H nx) : ∃ v, ares P fn F H = some v /\ R (.ret v) H nx := by
 unfold xretK at h
 split at h
 ·rename_i vs ps hx
  obtain ⟨h1, h2⟩ := (allP_iff _ _).1 h
  refine ⟨_, ?_, h2⟩
  unfold ares
  rw [xresL_ok hx h1]; rfl
 ·exact h.elim
def xcs (P : Program) (N : Nat) (call : CallX) : Code -> AMode -> (AX -> AMode -> St -> Prop) -> St -> Prop
 | .region id ops false, m, K, σ => match ops.any fun o => isRecover o.op with
  | true => match runOpsS P N ops ops.toList m σ with
   | some (x, m', τ) => K x m' τ
   | none => False
  | false => xc P N call (fun _ _ _ => False) (.region id ops false) 0 (fun x τ => K x m τ) σ
 | .seq a b, m, K, σ => xcs P N call a m (fun x m' τ => match x with
  | .normal => xcs P N call b m' K τ
  | x => K x m' τ) σ
 | .cond c a b, m, K, σ => match ev σ.fr c with
  | .bool t => fork t (xcs P N call a m K (litSlot c true σ)) (xcs P N call b m K (litSlot c false σ))
  | _ => False
 | c, m, K, σ => xc P N call (fun _ _ _ => False) c 0 (fun x τ => K x m τ) σ
theorem swpS_mono {P : Program} {N : Nat} {c : Code} {Q Q' : AX -> AMode -> St -> Prop} {m : AMode} {σ : St} (h : SWpS P N c Q m σ) (hq : ∀ x n τ, Q x n τ -> Q' x n τ) : SWpS P N c Q' m σ :=
 fun base w0 Z φ a w c0 cs hs hM => wpS_mono (h base w0 Z φ a w c0 cs hs hM) fun e a cs' w hl =>
  let ⟨Z', φ', x, n, τ, u, h1, h2, h3, h4, h5, h6, h7⟩ := hl
  ⟨Z', φ', x, n, τ, u, h1, h2, h3, h4, h5, h6, hq _ _ _ h7⟩
theorem swpS_lit {P : Program} {N : Nat} {c : Operand} {b : Bool} {x : Code} {Q : AX -> AMode -> St -> Prop} {m : AMode} {σ : St} (hc : ev σ.fr c = .bool b) (h : SWpS P N x Q m (litSlot c b σ)) : SWpS P N x Q m σ := by
 cases c with
 | tmp d => exact fun base w0 Z φ a w c0 cs hs hM => h base w0 Z φ a w c0 cs (fr_lit hs hc) hM
 | _ => exact h
theorem xcs_ok {P : Program} {N : Nat} {call : CallX} (hc : CallXOk P call) : ∀ (c : Code) (m : AMode) (K : AX -> AMode -> St -> Prop) (σ : St), xcs P N call c m K σ -> SWpS P N c K m σ := by
  have dflt : ∀ (c : Code) (m : AMode) (K : AX -> AMode -> St -> Prop) (σ : St), xc P N call (fun _ _ _ => False) c 0 (fun x τ => K x m τ) σ -> SWpS P N c K m σ := fun c m K σ h =>
    swpS_mono (swpS_of (m := m) (xc_ok (n0 := σ.nx) hc c 0 _ σ (fun i c hi σ Q h => h.elim) h)) fun x n τ ⟨h1, h2⟩ => by subst h2; exact h1
  intro c
  induction c with
  | region id ops draw =>
    intro m K σ h
    cases draw with
    | true => exact dflt _ m K σ h
    | false =>
      simp only [xcs] at h
      split at h
      rotate_left
      · exact dflt _ m K σ h
      split at h
      rotate_left
      · exact h.elim
      rename_i x m' τ hrun
      intro base w0 Z φ a w c0 cs hs hM
      refine wpSIn_region ?_
      have := runOpsS_sound ops.toList 0 (fun j => by simp) m σ hrun base w0 Z φ a w c0 cs hs hM
      rw [List.range_eq_range']
      refine wpOpsS_mono (fun e a cs' w hl => ?_) (by simpa using this)
      obtain ⟨Z', φ', y, n, ρ, u, h1, h2, h3, h4, h5, h6, rfl, rfl, rfl⟩ := hl
      exact ⟨Z', φ', y, n, ρ, u, h1, h2, h3, h4, h5, h6, h⟩
  | seq ca cb iha ihb =>
    intro m K σ h
    simp only [xcs] at h
    intro base w0 Z φ a w c0 cs hs hM
    refine wpSIn_seq ?_
    refine wpS_mono (iha m _ σ h base w0 Z φ a w c0 cs hs hM) fun e a' cs' w' hl => ?_
    obtain ⟨Z', φ', z, m2, σ2, u, h1, h2, h3, h4, h5, h6, h7⟩ := hl
    cases z with
    | normal =>
      cases e <;> try exact h3.elim
      subst h5
      exact wpS_mono (ihb m2 K σ2 h7 base w0 Z' φ' a' w' { c0 with mode := u } cs h4 h6) fun e a cs' w hl => LiftS.mono h1 h2 hl
    | exit i => cases e <;> try exact h3.elim
                exact ⟨Z', φ', .exit i, m2, σ2, u, h1, h2, h3, h4, h5, h6, h7⟩
    | ret => cases e <;> try exact h3.elim
             exact ⟨Z', φ', .ret, m2, σ2, u, h1, h2, h3, h4, h5, h6, h7⟩
    | panic v => cases e <;> try exact h3.elim
                 exact ⟨Z', φ', .panic v, m2, σ2, u, h1, h2, h3, h4, h5, h6, h7⟩
  | cond cd ca cb iha ihb =>
    intro m K σ h
    simp only [xcs] at h
    split at h
    · rename_i t ht
      rw [fork_iff] at h
      intro base w0 Z φ a w c0 cs hs hM
      refine wpSIn_cond (ev_bool hs.heap.gl hs.fr ht) ?_
      cases t with
      | true => simp only [if_true]; exact swpS_lit ht (iha m K _ (h.1 rfl)) base w0 Z φ a w c0 cs hs hM
      | false => simp only [Bool.false_eq_true, if_false]; exact swpS_lit ht (ihb m K _ (h.2 rfl)) base w0 Z φ a w c0 cs hs hM
    · exact h.elim
  | skip => intro m K σ h; exact dflt _ m K σ h
  | block _ _ _ => intro m K σ h; exact dflt _ m K σ h
  | loop _ _ => intro m K σ h; exact dflt _ m K σ h
  | rangeFunc _ _ _ _ _ _ => intro m K σ h; exact dflt _ m K σ h
  | exit _ => intro m K σ h; exact dflt _ m K σ h
  | scope _ _ => intro m K σ h; exact dflt _ m K σ h
  | label _ => intro m K σ h; exact dflt _ m K σ h
  | goto _ => intro m K σ h; exact dflt _ m K σ h
  | ret => intro m K σ h; exact dflt _ m K σ h
  | refuse _ => intro m K σ h; exact dflt _ m K σ h
def xfinD (P : Program) (fn : Func) (R : AE -> AMode -> Heap -> Nat -> Prop) : AX -> AMode -> St -> Prop := fun x m σ => match σ.df with
 | [] => match x with
  | .normal => xretK P fn (fun e H nx => R e m H nx) σ.fr σ.H σ.nx
  | .ret => xretK P fn (fun e H nx => R e m H nx) σ.fr σ.H σ.nx
  | .panic v => R (.panic v) m σ.H σ.nx
  | .exit _ => False
 | _ => False
def xcallD (P : Program) (call : CallX) (k : FuncId) (avs : List AV) (m : AMode) (H : Heap) (nx : Nat) (R : AE -> AMode -> Heap -> Nat -> Prop) : Prop :=
 match P.funcs[k]? with
 | none => False
 | some fn => match fn.body with
  | none => False
  | some c => xcs P (avs.length + (fn.ntmps - avs.length)) call c m (xfinD P fn R) ⟨fr0 avs, H, nx, []⟩
theorem xcallD_ok {P : Program} {call : CallX} (hc : CallXOk P call) {k : FuncId} {avs : List AV} {m : AMode} {H : Heap} {nx : Nat} {R : AE -> AMode -> Heap -> Nat -> Prop} (h : xcallD P call k avs m H nx R) : SCallD P k avs m H nx R := by
 unfold xcallD at h
 split at h
 ·exact h.elim
 rename_i fn hf
 split at h
 ·exact h.elim
 rename_i c hb
 intro base w0 Z φ w us u hH hr hM
 refine callsDIn_of_wpSIn (F := Wf none) hf hb trivial fun c0 cs hu => ?_
 refine wpS_mono (xcs_ok hc c m _ _ h base w0 Z φ _ w c0 cs ⟨frZeroRel hr _, by simp [hr.1], DfRel.nil _ _ _ _, hH⟩ (by rw [hu]; exact hM)) fun e' a cs' w' hl => ?_
 obtain ⟨Z', φ', y, m2, σ2, u2, h1, h2, h3, h4, h5, h6, h7⟩ := hl
 unfold xfinD at h7
 split at h7
 rotate_left
 ·exact h7.elim
 rename_i hdf
 have nodf : a.defers = [] := by
  have := h4.df
  rw [hdf] at this
  exact this.eq_nil
 cases y with
 | normal =>
  cases e' <;> try exact h3.elim
  obtain ⟨v, hv, hR⟩ := xretK_ok h7
  obtain ⟨q, hq, hrq⟩ := run_results h4.heap h4.fr hv
  exact ⟨nodf, u2, h5, q, hq, Z', φ', .ret v, m2, σ2.H, σ2.nx, h1, h2, hrq, h6, h4.heap, hR⟩
 | ret =>
  cases e' <;> try exact h3.elim
  obtain ⟨v, hv, hR⟩ := xretK_ok h7
  obtain ⟨q, hq, hrq⟩ := run_results h4.heap h4.fr hv
  exact ⟨nodf, u2, h5, q, hq, Z', φ', .ret v, m2, σ2.H, σ2.nx, h1, h2, hrq, h6, h4.heap, hR⟩
 | panic v =>
  cases e' <;> try exact h3.elim
  exact ⟨nodf, u2, h5, Z', φ', .panic v, m2, σ2.H, σ2.nx, h1, h2, h3, h6, h4.heap, h7⟩
 | exit i => exact h7.elim
theorem SCallD.mono {P : Program} {k : FuncId} {avs : List AV} {m : AMode} {H : Heap} {nx : Nat} {R R' : AE -> AMode -> Heap -> Nat -> Prop} (h : SCallD P k avs m H nx R) (hr : ∀ x n G q, R x n G q -> R' x n G q) : SCallD P k avs m H nx R' :=
 fun base w0 Z φ w us u hH hr1 hM => (h base w0 Z φ w us u hH hr1 hM).mono fun e u' w' ⟨Z', φ', x, m', H', nx', g1, g2, g3, g4, g5, g6⟩ => ⟨Z', φ', x, m', H', nx', g1, g2, g3, g4, g5, hr _ _ _ _ g6⟩
def xleave (P : Program) (call : CallX) (fn : Func) (F : Fr) (R : AE -> Heap -> Nat -> Prop) : List ADef -> AMode -> Heap -> Nat -> Prop
 | [], m, H, nx => match m with
  | .ret => xretK P fn R F H nx
  | .panic v => R (.panic v) H nx
  | .recd _ => False
 | .many :: ds, m, H, nx => xleave P call fn F R ds m H nx
 | .mark b :: ds, m, H, nx => match H.get b with
  | some .dfs => xleave P call fn F R ds m (H.del b) nx
  | _ => False
 | .call f args :: ds, m, H, nx => xcallD P call f args m H nx fun x m' H' nx' =>
   match x with
   | .ret _ => xleave P call fn F R ds (settleA m') H' nx'
   | .panic v => match m' with
    | .ret => xleave P call fn F R ds (.panic v) H' nx'
    | _ => False
theorem xleave_ok {P : Program} {call : CallX} (hc : CallXOk P call) {fn : Func} {F : Fr} {R : AE -> Heap -> Nat -> Prop} : ∀ (ds : List ADef) (m : AMode) (H : Heap) (nx : Nat), xleave P call fn F R ds m H nx -> LeavesA P fn F R ds m H nx
 | [], m, H, nx, h => by
  unfold LeavesA
  cases m with
  | ret => exact xretK_ok h
  | panic v => exact h
  | recd v => exact h.elim
 | .many :: ds, m, H, nx, h => by
  unfold xleave at h
  unfold LeavesA
  exact xleave_ok hc ds _ _ _ h
 | .mark b :: ds, m, H, nx, h => by
  unfold xleave at h
  split at h
  ·rename_i hb
   unfold LeavesA
   exact ⟨hb, xleave_ok hc ds _ _ _ h⟩
  ·exact h.elim
 | .call f args :: ds, m, H, nx, h => by
  unfold xleave at h
  unfold LeavesA
  refine (xcallD_ok hc h).mono fun x n G q hx => ?_
  cases x with
  | ret v => exact xleave_ok hc ds _ _ _ hx
  | panic v =>
   cases n with
   | ret => exact xleave_ok hc ds _ _ _ hx
   | panic _ => exact hx.elim
   | recd _ => exact hx.elim
def xbody (P : Program) (call : CallX) (fn : Func) (R : AE -> Heap -> Nat -> Prop) : AX -> St -> Prop := fun x σ =>
 match x with
 | .normal => xleave P call fn σ.fr R σ.df .ret σ.H σ.nx
 | .ret => xleave P call fn σ.fr R σ.df .ret σ.H σ.nx
 | .panic v => xleave P call fn σ.fr R σ.df (.panic v) σ.H σ.nx
 | .exit _ => False
theorem xbody_ok {P : Program} {call : CallX} (hc : CallXOk P call) {fn : Func} {R : AE -> Heap -> Nat -> Prop} {x : AX} {σ : St} (h : xbody P call fn R x σ) : BodyQ P fn R x σ := by
 cases x with
 | normal => exact xleave_ok hc _ _ _ _ h
 | ret => exact xleave_ok hc _ _ _ _ h
 | panic v => exact xleave_ok hc _ _ _ _ h
 | exit i => exact h.elim
structure Tab where
 fn : FuncId -> Option (List AV -> Heap -> Nat -> (AE -> Heap -> Nat -> Prop) -> Prop)
 lp : FuncId -> Nat -> LoopX
 wr : Bool := false
 nm : Bool := false
 ip : Bool := false
 un : Nat := 0
 cp : Bool := false
 fz : Bool := false
 fb : List Nat := []
 ul : List Nat := []
structure TabOk (P : Program) (T : Tab) : Prop where
 fn : ∀ k c, T.fn k = some c -> ∀ avs H nx R, c avs H nx R -> SCall P k avs H nx R
 lp : ∀ k fn c, P.funcs[k]? = some fn -> fn.body = some c -> ∀ n0, LoopsOk P fn.ntmps n0 (T.lp k n0) 0 (loopsOf c)
theorem loops_in : ∀ (c : Code) (j : Nat) (b : Code), (loopsOf c)[j]? = some b -> ∀ i d, (loopsOf b)[i]? = some d -> (loopsOf c)[j + 1 + i]? = some d := by
 have app : ∀ (x y : List Code), (∀ j b, x[j]? = some b -> ∀ i d, (loopsOf b)[i]? = some d -> x[j + 1 + i]? = some d) -> (∀ j b, y[j]? = some b -> ∀ i d, (loopsOf b)[i]? = some d -> y[j + 1 + i]? = some d) ->
   ∀ j b, (x ++ y)[j]? = some b -> ∀ i d, (loopsOf b)[i]? = some d -> (x ++ y)[j + 1 + i]? = some d := by
  intro x y hx hy j b hj i d hi
  by_cases hlt : j < x.length
  ·rw [List.getElem?_append_left hlt] at hj
   have := hx j b hj i d hi
   rw [List.getElem?_append_left (List.getElem?_eq_some_iff.1 this).1]; exact this
  ·rw [List.getElem?_append_right (by omega)] at hj
   have := hy _ b hj i d hi
   rw [List.getElem?_append_right (by omega), <- this]
   congr 1; omega
 intro c
 induction c with
 | seq a b iha ihb => exact app _ _ iha ihb
 | cond _ a b iha ihb => exact app _ _ iha ihb
 | block _ c ih => exact ih
 | scope c ih => exact ih
 | loop c ih =>
  intro j b hj i d hi
  cases j with
  | zero =>
   simp only [loopsOf, List.getElem?_cons_zero, Option.some.injEq] at hj
   subst hj
   simp only [loopsOf]
   rw [show 0 + 1 + i = i + 1 from by omega, List.getElem?_cons_succ]; exact hi
  | succ j =>
   simp only [loopsOf, List.getElem?_cons_succ] at hj
   simp only [loopsOf]
   rw [show j + 1 + 1 + i = (j + 1 + i) + 1 from by omega, List.getElem?_cons_succ]
   exact ih j b hj i d hi
 | _ => intro j b hj; simp [loopsOf] at hj
def noLoop : LoopX := fun _ _ _ => False
theorem noLoop_ok {P : Program} {N n0 j : Nat} {l : List Code} : LoopsOk P N n0 noLoop j l := fun i c hi σ Q h => h.elim
def unrG (P : Program) (N : Nat) (call : CallX) (lp : LoopX) (c : Code) (j : Nat) (K : AX -> St -> Prop) : Nat -> St -> Prop
 | 0, _ => False
 | n + 1, σ => xc P N call lp c (j + 1) (AX.then (fun σ' => unrG P N call lp c j K n σ') K) σ
theorem unrG_ok {P : Program} {N n0 : Nat} {call : CallX} (hc : CallXOk P call) {lp : LoopX} {c : Code} {j : Nat} (hl : LoopsOk P N n0 lp (j + 1) (loopsOf c)) {K : AX -> St -> Prop} {n : Nat} {σ : St} (h : unrG P N call lp c j K n σ) : SWp P N n0 (.loop c) K σ := by
 refine swp_loop (fun n σ => unrG P N call lp c j K n σ) h fun n σ hn => ?_
 cases n with
 | zero => exact hn.elim
 | succ n =>
  refine (xc_ok hc c (j + 1) _ σ hl hn).mono fun x τ hq => ?_
  cases x with
  | normal => exact ⟨n, Nat.lt_succ_self n, hq⟩
  | _ => exact hq
def lfN (P : Program) (N : Nat) (call : CallX) (body : Code) : Nat -> LoopX
 | 0 => noLoop
 | d + 1 => fun j σ K => match (loopsOf body)[j]? with
  | some c => unrG P N call (lfN P N call body d) c j K call.un σ
  | none => False
theorem lfN_ok {P : Program} {N n0 : Nat} {call : CallX} (hc : CallXOk P call) {body : Code} : ∀ d, LoopsOk P N n0 (lfN P N call body d) 0 (loopsOf body)
 | 0 => noLoop_ok
 | d + 1 => fun i c hi σ Q h => by
  unfold lfN at h
  rw [Nat.zero_add, hi] at h
  exact unrG_ok hc (fun i' d' hd σ Q hq => lfN_ok hc d (i + 1 + i') d' (loops_in body i c hi i' d' hd) σ Q (by rw [Nat.zero_add]; exact hq)) h
def natIn (j : Nat) : List Nat -> Bool
 | [] => false
 | i :: l => match Nat.beq i j with
  | true => true
  | false => natIn j l
def ulp (P : Program) (N : Nat) (call : CallX) (body : Code) (lp : LoopX) : LoopX := fun j σ K => match natIn j call.ul with
 | true => lfN P N call body 6 j σ K
 | false => lp j σ K
theorem ulp_ok {P : Program} {N n0 : Nat} {call : CallX} (hc : CallXOk P call) {body : Code} {lp : LoopX} (hl : LoopsOk P N n0 lp 0 (loopsOf body)) : LoopsOk P N n0 (ulp P N call body lp) 0 (loopsOf body) := fun i c hi σ Q h => by
 unfold ulp at h
 split at h
 ·exact lfN_ok hc 6 i c hi σ Q h
 ·exact hl i c hi σ Q h
def xlp (P : Program) (N : Nat) (call : CallX) (body : Code) (lp : LoopX) : LoopX := match Nat.ble 1000 call.un with
 | true => lfN P N call body 6
 | false => ulp P N call body lp
theorem xlp_ok {P : Program} {N n0 : Nat} {call : CallX} (hc : CallXOk P call) {body : Code} {lp : LoopX} (hl : LoopsOk P N n0 lp 0 (loopsOf body)) : LoopsOk P N n0 (xlp P N call body lp) 0 (loopsOf body) := by
 unfold xlp
 split
 ·exact lfN_ok hc 6
 ·exact ulp_ok hc hl
def xinl0 (P : Program) (call : CallX) (lp : FuncId -> Nat -> LoopX) : FuncId -> List AV -> Heap -> Nat -> (AE -> Heap -> Nat -> Prop) -> Prop := fun k avs H nx R =>
 match P.funcs[k]? with
 | none => False
 | some fn => match fn.body with
  | none => False
  | some c => req (Nat.ble avs.length fn.ntmps) (xc P fn.ntmps call (xlp P fn.ntmps call c (lp k nx)) c 0 (xbody P call fn R) ⟨fr0 avs, H, nx, []⟩)
theorem xinl0_ok {P : Program} {call : CallX} {lp : FuncId -> Nat -> LoopX} (hc : CallXOk P call) {k : FuncId} (hl : ∀ fn c, P.funcs[k]? = some fn -> fn.body = some c -> ∀ n0, LoopsOk P fn.ntmps n0 (lp k n0) 0 (loopsOf c)) {avs : List AV} {H : Heap} {nx : Nat} {R : AE -> Heap -> Nat -> Prop} (h : xinl0 P call lp k avs H nx R) : SCall P k avs H nx R := by
 unfold xinl0 at h
 split at h
 ·exact h.elim
 rename_i fn hf
 split at h
 ·exact h.elim
 rename_i c hb
 rw [req_iff] at h
 have hle : avs.length <= fn.ntmps := Nat.le_of_ble_eq_true h.1
 refine scall_of hf hb ?_
 have e : avs.length + (fn.ntmps - avs.length) = fn.ntmps := by omega
 rw [e]
 exact (xc_ok hc c 0 _ _ (xlp_ok hc (hl fn c hf hb nx)) h.2).mono fun x σ hx => xbody_ok hc hx
def capA : List AV -> (List AV -> Prop) -> Prop
 | [], K => K []
 | v :: l, K => match v with
  | .sl b s off len none => ∀ c : Nat, len <= c -> capA l fun l' => K (.sl b s off len (some c) :: l')
  | v => capA l fun l' => K (v :: l')
theorem capA_ok {Z : ZMap} {φ : PMap} : ∀ (avs : List AV) (us : List Value) (K : List AV -> Prop), us.length = avs.length -> (∀ (i : Nat) (v : AV) (u : Value), avs[i]? = some v -> us[i]? = some u -> Rep Z φ v u) -> capA avs K ->
  ∃ avs' : List AV, us.length = avs'.length /\ (∀ (i : Nat) (v : AV) (u : Value), avs'[i]? = some v -> us[i]? = some u -> Rep Z φ v u) /\ K avs'
 | [], us, K, hl, hr, h => ⟨[], hl, hr, h⟩
 | v :: l, [], K, hl, hr, h => by simp at hl
 | v :: l, u :: us, K, hl, hr, h => by
  have r0 := hr 0 v u rfl rfl
  have key : ∀ v', Rep Z φ v' u -> capA l (fun l' => K (v' :: l')) -> ∃ avs' : List AV, (u :: us).length = avs'.length /\ (∀ (i : Nat) (v : AV) (x : Value), avs'[i]? = some v -> (u :: us)[i]? = some x -> Rep Z φ v x) /\ K avs' := fun v' hv' hk => by
   obtain ⟨l', h1, h2, h3⟩ := capA_ok l us _ (by simpa using hl) (fun i v x a b => hr (i + 1) v x (by simpa using a) (by simpa using b)) hk
   refine ⟨v' :: l', by simp [h1], fun i v x a b => ?_, h3⟩
   cases i with
   | zero => simp at a b; subst a b; exact hv'
   | succ i => exact h2 i v x (by simpa using a) (by simpa using b)
  unfold capA at h
  split at h
  ·obtain ⟨c, hc, hrep⟩ := rep_room r0
   exact key _ hrep (h c hc)
  ·exact key _ r0 h
def xinl (P : Program) (call : CallX) (lp : FuncId -> Nat -> LoopX) : FuncId -> List AV -> Heap -> Nat -> (AE -> Heap -> Nat -> Prop) -> Prop := fun k avs H nx R =>
 match call.cp with
 | true => capA avs fun avs' => xinl0 P call lp k avs' H nx R
 | false => xinl0 P call lp k avs H nx R
theorem xinl_ok {P : Program} {call : CallX} {lp : FuncId -> Nat -> LoopX} (hc : CallXOk P call) {k : FuncId} (hl : ∀ fn c, P.funcs[k]? = some fn -> fn.body = some c -> ∀ n0, LoopsOk P fn.ntmps n0 (lp k n0) 0 (loopsOf c)) {avs : List AV} {H : Heap} {nx : Nat} {R : AE -> Heap -> Nat -> Prop} (h : xinl P call lp k avs H nx R) : SCall P k avs H nx R := by
 unfold xinl at h
 split at h
 ·intro base w0 Z φ w us hH hr
  obtain ⟨avs', h1, h2, h3⟩ := capA_ok avs us.toList _ (by simpa using hr.1) (fun i v u a b => hr.2 i v u a (by simpa using b)) h
  exact xinl0_ok hc hl h3 base w0 Z φ w us hH ⟨by simpa using h1, fun i v u a b => h2 i v u a (by simpa using b)⟩
 ·exact xinl0_ok hc hl h
def unr (P : Program) (N : Nat) (call : CallX) (c : Code) (j : Nat) (K : AX -> St -> Prop) : Nat -> St -> Prop
 | 0, _ => False
 | n + 1, σ => xc P N call noLoop c (j + 1) (AX.then (fun σ' => unr P N call c j K n σ') K) σ
theorem unr_ok {P : Program} {N n0 : Nat} {call : CallX} (hc : CallXOk P call) {c : Code} {j : Nat} {K : AX -> St -> Prop} {n : Nat} {σ : St} (h : unr P N call c j K n σ) : SWp P N n0 (.loop c) K σ := by
 refine swp_loop (fun n σ => unr P N call c j K n σ) h fun n σ hn => ?_
 cases n with
 | zero => exact hn.elim
 | succ n =>
  refine (xc_ok hc c (j + 1) _ σ noLoop_ok hn).mono fun x τ hq => ?_
  cases x with
  | normal => exact ⟨n, Nat.lt_succ_self n, hq⟩
  | _ => exact hq
def lfU (P : Program) (N : Nat) (call : CallX) (body : Code) : LoopX := fun j σ K => match (loopsOf body)[j]? with
 | some c => unr P N call c j K call.un σ
 | none => False
theorem lfU_ok {P : Program} {N n0 : Nat} {call : CallX} (hc : CallXOk P call) {body : Code} : LoopsOk P N n0 (lfU P N call body) 0 (loopsOf body) := fun i c hi σ Q h => by
 unfold lfU at h
 rw [Nat.zero_add, hi] at h
 exact unr_ok hc h
def roundK (R : AE -> Heap -> Nat -> Prop) : Option (AE × Heap × Nat) -> Prop
 | some (e, H, nx) => R e H nx
 | none => False
def xround2 (P : Program) (N : Nat) (call : CallX) (b : Nat) (body : Code) (R : AE -> Heap -> Nat -> Prop) : AX -> St -> Prop
 | .normal, σ => match σ.H.get b with
  | some (.lp .ready pend F' N' ps' asg' body') => xc P N call (lfU P N call body) body 0 (fun x τ => roundK R (roundOut τ.H b τ.nx x)) ⟨σ.fr, σ.H.set b (.lp .busy pend F' N' ps' asg' body'), σ.nx, σ.df⟩
  | _ => False
 | _, _ => False
def xround (P : Program) (call : CallX) (b : Nat) (avs : List AV) (H : Heap) (nx : Nat) (R : AE -> Heap -> Nat -> Prop) : Prop :=
 match H.get b with
 | some (.lp .ready _ F N ps asg body) => req (plainB asg && plainB body && Nat.beq avs.length ps.length && ps.all (fun p => Nat.blt p N))
  (xc P N call noLoop asg 0 (xround2 P N call b body R) ⟨params F ps avs, H, nx, []⟩)
 | _ => False
theorem xround_ok {P : Program} {call : CallX} (hc : CallXOk P call) {b : Nat} {avs : List AV} {H : Heap} {nx : Nat} {R : AE -> Heap -> Nat -> Prop} (h : xround P call b avs H nx R) : SYield P b avs H nx R := by
 intro base w0 Z φ w us l hH hr hl
 unfold xround at h
 split at h
 rotate_left
 ·exact h.elim
 rename_i pend0 F N ps asg body hget
 rw [req_iff] at h
 obtain ⟨hchk, h⟩ := h
 simp only [Bool.and_eq_true, List.all_eq_true] at hchk
 obtain ⟨⟨⟨hpa, hpb⟩, hlen⟩, hlt⟩ := hchk
 have hlen := Nat.eq_of_beq_eq_true hlen
 have hlt : ∀ p ∈ ps, p < N := fun p hp => by have := hlt p hp; exact Nat.le_of_ble_eq_true this
 obtain ⟨hz, r, hr0, e1, e2, e3, e4, e5, e6, e7⟩ := hH.ownAt hget hl
 have hus : us.size = ps.length := by rw [hr.1, hlen]
 refine ⟨r, hr0, by rw [e4, hus]; simp, ?_⟩
 have hz1 : (r.params.zip us).foldl (fun tmps (t, a) => tmps.setIfInBounds t a) r.tmps = (ps.zip us.toList).foldl (fun tmps (t, a) => tmps.setIfInBounds t a) r.tmps := by
  rw [<- Array.foldl_toList, Array.toList_zip, e4]
 refine roundIn_of_wpIn trivial ?_
 rw [hz1, e5, e6]
 have hF := params_rel ps avs us.toList F r.tmps hlen (by simpa using hus) (fun i v u a c => hr.2 i v u a (by simpa using c)) (fun p hp => by rw [e3]; exact hlt p hp) e7
 refine wpIn_mono ((xc_ok (n0 := nx) hc asg 0 _ ⟨params F ps avs, H, nx, []⟩ noLoop_ok h) (some l.B) base w0 Z φ { tmps := _, defers := [] } w (.inr hpa) ⟨hF, by rw [foldl_params_size]; exact e3, DfRel.nil _ _ _ _, hH⟩) fun ex a1 w1 hl1 => ?_
 obtain ⟨Z1, φ1, x1, σ1, g1, g2, g3, g4, g5⟩ := hl1
 unfold xround2 at g5
 split at g5
 rotate_left
 ·exact g5.elim
 rename_i hx1 _
 split at g5
 rotate_left
 ·exact g5.elim
 rename_i pend1 F' N' ps' asg' body' hget1
 cases ex <;> try exact g3.elim
 have gp : PLe φ φ1 := fun c y hy => g2 c y (hH.fnx c y hy) hy
 have hl1 := gp _ _ hl
 obtain ⟨r1, hr1, f1, f2, f3, f4, f5, f6, f7, hH1⟩ := g4.heap.turn (st' := .busy) (pend' := pend1) hget1 hl1
 refine ⟨_, run_beginRound hr1 f1, ?_⟩
 have hrec : ({ r1 with state := .busy } : Loop) = { r1 with state := .busy, pending := pend1 } := by rw [<- f2]
 rw [hrec]
 refine wpIn_mono ((xc_ok (n0 := σ1.nx) hc body 0 _ ⟨σ1.fr, _, σ1.nx, σ1.df⟩ (lfU_ok hc) g5) (some l.B) base w0 Z1 φ1 a1 _ (.inr hpb) ⟨g4.fr, g4.size, g4.df, hH1⟩) fun ex a2 w2 hl2 => ?_
 obtain ⟨Z2, φ2, x2, σ2, k1, k2, k3, k4, k5⟩ := hl2
 have gp2 : PLe φ1 φ2 := fun c y hy => k2 c y (g4.heap.fnx c y hy) hy
 have hl2 := gp2 _ _ hl1
 unfold roundOut at k5
 split at k5
 ·rename_i st3 pend3 F3 N3 ps3 asg3 body3 hget3
  cases x2 with
  | normal =>
   cases ex <;> try exact k3.elim
   obtain ⟨r2, hr2, _, _, _, _, _, _, _, hH2⟩ := k4.heap.turn (st' := .ready) (pend' := none) hget3 hl2
   exact ⟨_, _, run_endRound none hr2, Z2, φ2, .ret (.bool true), _, _, g1.trans k1, gp.trans gp2, .bool _, hH2, k5⟩
  | ret =>
   cases ex <;> try exact k3.elim
   obtain ⟨r2, hr2, _, _, _, _, _, _, _, hH2⟩ := k4.heap.turn (st' := .done) (pend' := some .ret) hget3 hl2
   exact ⟨_, _, run_endRound (some .ret) hr2, Z2, φ2, .ret (.bool false), _, _, g1.trans k1, gp.trans gp2, .bool _, hH2, k5⟩
  | exit id =>
   cases ex <;> try exact k3.elim
   have k3 : id = _ := k3
   subst k3
   obtain ⟨r2, hr2, _, _, _, _, _, _, _, hH2⟩ := k4.heap.turn (st' := .done) (pend' := some (.exit id)) hget3 hl2
   exact ⟨_, _, run_endRound (some (.exit id)) hr2, Z2, φ2, .ret (.bool false), _, _, g1.trans k1, gp.trans gp2, .bool _, hH2, k5⟩
  | panic v => exact k5.elim
 ·exact k5.elim
def xcall (P : Program) (T : Tab) : Nat -> CallX
 | 0 => ⟨fun _ _ _ _ _ => False, T.wr, T.nm, T.ip, T.un, T.cp, T.fz, T.fb, T.ul⟩
 | n + 1 => ⟨fun t avs H nx R => match t with
  | .f k => match T.fn k with
   | some c => c avs H nx R
   | none => xinl P (xcall P T n) T.lp k avs H nx R
  | .y b => xround P (xcall P T n) b avs H nx R, T.wr, T.nm, T.ip, T.un, T.cp, T.fz, T.fb, T.ul⟩
theorem xcall_ok {P : Program} {T : Tab} (hT : TabOk P T) : ∀ n, CallXOk P (xcall P T n)
 | 0 => fun k avs H nx R h => False.elim h
 | n + 1 => fun t avs H nx R h => by
  unfold xcall at h
  dsimp only at h
  split at h
  ·split at h
   ·rename_i c hk
    exact hT.fn _ c hk avs H nx R h
   ·exact xinl_ok (xcall_ok hT n) (fun fn c hf hb => hT.lp _ fn c hf hb) h
  ·exact xround_ok (xcall_ok hT n) h
end Go.Lom

/- Functions of typed contents: contracts, how they are proved and how they are used. No conditions of its own. -/
namespace Go.Lom
open Go.RowKit
section
variable {base : Nat -> Prop} {w0 : Start} {Z Z' : ZMap} {φ φ' : PMap} {H : Heap} {nx : Nat} {w w' : World}
theorem HRel.frozen (h : HRel base w0 Z φ H nx w) {φ0 : PMap} (h0 : ∀ b x, φ0 b = some x -> b < 0) : HRel base w0 (frz Z φ H w) φ0 [] 0 w := by
 refine ⟨h.below, frz_z h, fun B hB hu => ?_, h.gl.mono (frz_le _ _ _ _), h0, fun b x hb => by simp [Heap.get] at hb, fun b l hb => by have := h0 b l hb; omega, fun b x hb => by simp [Heap.get] at hb, fun b b' x x' l l' _ hb => by simp [Heap.get] at hb, fun b x l hb => by simp [Heap.get] at hb⟩
 rcases frz_cases (Z := Z) (φ := φ) (H := H) (w := w) B with h1 | ⟨_, ⟨b, x, l, hb, hl, rfl⟩, _⟩
 ·rw [h1]; exact h.z0 B hB hu
 ·have := h.ob b x l hb hl hu; omega
theorem HRel.start0 {Zf : ZMap} (gl : GlobOk Zf) (hz : ∀ B o, Zf B = some o -> w.heap[B]? = some o) : HRel (fun _ => True) ⟨w, Zf⟩ Zf (fun _ => none) [] 0 w := by
 refine ⟨KeptW.refl _ _, hz, fun _ _ _ => rfl, gl, ?_, ?_, ?_, ?_, ?_, ?_⟩
 ·intro b x h; exact nomatch h
 ·intro b x h; simp [Heap.get] at h
 ·intro b l h; exact nomatch h
 ·intro b x h; simp [Heap.get] at h
 ·intro b b' x x' l l' _ h; simp [Heap.get] at h
 ·intro b x l h; simp [Heap.get] at h
theorem HRel.later (h : HRel base w0 Z φ H nx w) (hk : KeptW (fun _ => True) w w') : HRel base w0 Z φ H nx w' := by
 have hb : ∀ B, B < w.heap.size -> w'.heap[B]? = w.heap[B]? := fun B hB => hk.block B hB trivial
 refine ⟨⟨hk.os.trans h.below.os, hk.tape.trans h.below.tape, hk.output.trans h.below.output, Nat.le_trans h.below.size hk.size, fun B hB hu => by rw [hb B (Nat.lt_of_lt_of_le hB h.below.size)]; exact h.below.block B hB hu⟩,
  fun B o hB => ?_, h.z0, h.gl, h.fnx, h.hnx, fun b l hl => Nat.lt_of_lt_of_le (h.flt b l hl) hk.size, fun b x hx => ?_, h.inj, h.ob⟩
 ·have := h.z B o hB
  have hlt : B < w.heap.size := by
   rcases Nat.lt_or_ge B w.heap.size with hlt | hge
   ·exact hlt
   ·rw [Array.getElem?_eq_none hge] at this; cases this
  rw [hb B hlt]; exact this
 ·rcases h.own' b x hx with hg | ⟨l, hl, hz, hr⟩
  ·exact .inl hg
  ·exact .inr ⟨l, hl, hz, hr.mono (ZLe.refl _) (PLe.refl _) (hb l.B (h.flt _ _ hl))⟩
end
def Ty.flat : Ty -> Bool
 | .i _ | .b | .s => true
 | .sl _ | .mp _ _ | .so _ => false
 | .pr x y => x.flat && y.flat
 | .ar _ t => t.flat
theorem enc_flat {Z Z' : ZMap} {φ φ' : PMap} : ∀ (t : Ty), t.flat = true -> ∀ (x : t.den) (j : Nat) (v : AV) (u : Value), (t.enc x)[j]? = some v -> Rep Z φ v u -> Rep Z' φ' v u
 | .i k, _, n, j, v, u, hj, h => by
  cases j <;> simp [Ty.enc] at hj
  subst hj; cases h; exact .int _ _
 | .b, _, n, j, v, u, hj, h => by
  cases j <;> simp [Ty.enc] at hj
  subst hj; cases h; exact .bool _
 | .s, _, n, j, v, u, hj, h => by
  cases j <;> simp [Ty.enc] at hj
  subst hj; cases h; exact .str _
 | .sl t, hf, _, _, _, _, _, _ => by cases hf
 | .mp _ _, hf, _, _, _, _, _, _ => by cases hf
 | .so _, hf, _, _, _, _, _, _ => by cases hf
 | .pr a b, hf, p, j, v, u, hj, h => by
  simp only [Ty.flat, Bool.and_eq_true] at hf
  simp only [Ty.enc] at hj
  by_cases hlt : j < (a.enc p.1).length
  ·rw [List.getElem?_append_left hlt] at hj
   exact enc_flat a hf.1 p.1 j v u hj h
  ·rw [List.getElem?_append_right (by omega)] at hj
   exact enc_flat b hf.2 p.2 _ v u hj h
 | .ar n t, hf, xs, j, v, u, hj, h => by
  simp only [Ty.enc] at hj
  obtain ⟨y, _, i, hi⟩ := flatMap_cell _ j v hj
  exact enc_flat t hf y i v u hi h
theorem val_flat {Z Z' : ZMap} {φ φ' : PMap} (t : Ty) (hf : t.flat = true) (x : t.den) {u : Value} (h : Rep Z φ (t.val x) u) : Rep Z' φ' (t.val x) u := by
 cases t with
 | i k => exact enc_flat (.i k) hf x 0 _ u rfl h
 | b => exact enc_flat .b hf x 0 _ u rfl h
 | s => exact enc_flat .s hf x 0 _ u rfl h
 | sl t => cases hf
 | mp κ ν => cases hf
 | so t => cases hf
 | pr a b =>
  simp only [Ty.val] at h ⊢
  cases h with
  | agg hl h => exact .agg hl fun i v u a b => enc_flat _ hf _ i v u a (h i v u a b)
 | ar n t =>
  have h := Rep.ofAr (show Rep Z φ (.ar t x) u from h)
  apply Rep.toAr
  generalize hc : AV.agg (x.flatMap t.enc) = a at h
  cases h <;> cases hc
  rename_i us hl h
  refine .agg hl fun i v u a b => ?_
  obtain ⟨y, _, k, hk⟩ := flatMap_cell _ i v a
  exact enc_flat t hf y k v u hk (h i v u a b)
def untup (n : Nat) (v : AV) : List AV :=
 match n with
 | 1 => [v]
 | _ => match v with
  | .tup vs => vs
  | _ => [.undef]
def resK (rs : List Ty) (K : dens rs -> Prop) : AE -> Heap -> Nat -> Prop := fun x H _ =>
 match x with
 | .ret v => match decVs H rs (untup rs.length v) with
  | some (r, ps) => allP ps (K r)
  | none => False
 | .panic _ => False
abbrev Spec (as : List AT) (rs : List Ty) := densA as -> (dens rs -> Prop) -> Prop
def PCok (P : Program) (k : FuncId) (as : List AT) (rs : List Ty) (spec : Spec as rs) : Prop :=
 ∀ x K, spec x K -> SCall P k (valsA as x) [] 0 fun e H nx => H = [] /\ nx = 0 /\ ∃ r, e = .ret (tupOf (vals rs r)) /\ K r
theorem vals_length : ∀ (ts : List Ty) (x : dens ts), (vals ts x).length = ts.length
 | [], _ => rfl
 | t :: ts, x => by simp [vals, vals_length ts]
theorem vals_get (ts : List Ty) (x : dens ts) (h : ts.length ≠ 1) : tupOf (vals ts x) = .tup (vals ts x) := by
 have := vals_length ts x
 unfold tupOf
 split
 ·rename_i v hv; rw [hv] at this; simp at this; omega
 ·rfl
theorem rep_tup {Z Z' : ZMap} {φ φ' : PMap} {rs : List Ty} {r : dens rs} {v : AV} {u : Value} {vs : List AV} (hv : vs = untup rs.length v) (hr : Rep Z φ v u)
  (hall : ∀ us, Reps Z φ vs us -> Reps Z' φ' (vals rs r) us) (hne : rs.length ≠ 1 -> ∃ ws, v = .tup ws) : Rep Z' φ' (tupOf (vals rs r)) u := by
 by_cases h1 : rs.length = 1
 ·match rs, h1 with
  | [t], _ =>
   have hv : vs = [v] := hv
   have := hall #[u] ⟨by rw [hv]; rfl, fun i x y hx hy => by
    rw [hv] at hx
    cases i <;> simp at hx hy
    subst hx hy; exact hr⟩
   exact this.2 0 _ u rfl rfl
 ·obtain ⟨ws, rfl⟩ := hne h1
  have hv : vs = ws := by
   rw [hv]; unfold untup
   split
   ·rename_i h; exact absurd h h1
   ·rfl
  subst hv
  rw [vals_get rs r h1]
  cases hr with
  | tup hl h => 
   have := hall _ ⟨hl, h⟩
   exact .tup this.1 this.2
theorem untup_tup {rs : List Ty} {v : AV} {H : Heap} {r : dens rs} {ps : List Bool} (h : decVs H rs (untup rs.length v) = some (r, ps)) : rs.length ≠ 1 -> ∃ ws, v = .tup ws := by
 intro hne
 have hl : (untup rs.length v).length = rs.length := by
  have key : ∀ (ts : List Ty) (vs : List AV) (x : dens ts) (qs : List Bool), decVs H ts vs = some (x, qs) -> vs.length = ts.length := by
   intro ts
   induction ts with
   | nil => intro vs x qs hd; cases vs <;> simp [decVs] at hd ⊢
   | cons t ts ih =>
    intro vs x qs hd
    cases vs with
    | nil => simp [decVs] at hd
    | cons v vs =>
     simp only [decVs] at hd
     unfold pairD at hd
     split at hd
     ·split at hd
      ·rename_i y q hy; simp [ih vs y q hy]
      ·cases hd
     ·cases hd
  exact key _ _ _ _ h
 unfold untup at hl
 split at hl
 ·rename_i h1; exact absurd h1 hne
 ·split at hl
  ·exact ⟨_, rfl⟩
  ·simp at hl; exact absurd hl.symm hne
theorem pc_of {P : Program} {call : CallX} {lp : FuncId -> Nat -> LoopX} (hc : CallXOk P call) {k : FuncId} (hl : ∀ fn c, P.funcs[k]? = some fn -> fn.body = some c -> ∀ n0, LoopsOk P fn.ntmps n0 (lp k n0) 0 (loopsOf c)) {as : List AT} {rs : List Ty} {spec : Spec as rs}
  (h : ∀ x K, spec x K -> xinl P call lp k (valsA as x) [] 0 (resK rs K)) : PCok P k as rs spec := by
 intro x K hx base w0 Z φ w us hH hr
 refine (xinl_ok hc hl (h x K hx) base w0 Z φ w us hH hr).mono fun e w' ⟨Z', φ', y, H', nx', h1, h2, h3, h4, h5⟩ => ?_
 unfold resK at h5
 split at h5
 ·rename_i v
  split at h5
  ·rename_i r ps hd
   rw [allP_iff] at h5
   cases e <;> try exact h3.elim
   have h3 : Rep Z' φ' v _ := h3
   have hf := frz_froze h4
   refine ⟨frz Z' φ' H' w', φ, .ret (tupOf (vals rs r)), [], 0, h1.trans hf.1, PLe.refl _, ?_, h4.frozen hH.fnx, rfl, rfl, r, rfl, h5.2⟩
   exact rep_tup rfl h3 (fun us hus => decVs_ok h4.ownR hf rs _ r ps hd h5.1 us hus) (untup_tup hd)
  ·exact h5.elim
 ·exact h5.elim
def names1 : AV -> List Nat
 | .sl b _ _ _ _ => [b]
 | .ptr b _ _ => [b]
 | .mp b => [b]
 | _ => []
def namesA : AV -> List Nat
 | .agg cs => cs.flatMap names1
 | v => names1 v
def flatL (rs : List Ty) : Bool := rs.all Ty.flat
def pcD (as : List AT) (rs : List Ty) (spec : Spec as rs) (avs : List AV) (H : Heap) (nx : Nat) (R : AE -> Heap -> Nat -> Prop) (other : Prop) : Prop :=
 match flatL rs with
 | true => match decAs H as avs with
  | some (x, ps) => allP ps (spec x fun r => R (.ret (tupOf (vals rs r))) H nx)
  | none => other
 | false => match decAs (selN (avs.flatMap namesA) H) as avs with
  | some (x, ps) => allP ps (spec x fun r => R (.ret (tupOf (vals rs r))) (dropN (avs.flatMap namesA) H) nx)
  | none => other
theorem reps_free {Z Z' : ZMap} (hZ : ZLe Z Z') {φ φ' : PMap} : ∀ (ts : List Ty) (x : dens ts) (us : Array Value), Reps Z φ (vals ts x) us -> Reps Z' φ' (vals ts x) us := by
 intro ts x us h
 refine ⟨h.1, fun i v u hv hu => ?_⟩
 have key : ∀ (ts : List Ty) (x : dens ts) (i : Nat) (v : AV), (vals ts x)[i]? = some v -> ∃ (t : Ty) (y : t.den), v = t.val y := by
  intro ts
  induction ts with
  | nil => intro x i v hv; simp [vals] at hv
  | cons t ts ih =>
   intro x i v hv
   cases i with
   | zero => simp [vals] at hv; exact ⟨t, x.1, hv.symm⟩
   | succ i => exact ih x.2 i v (by simpa [vals] using hv)
 obtain ⟨t, y, rfl⟩ := key ts x i v hv
 exact val_free hZ t y (h.2 i _ u hv hu)
theorem reps_flat {Z Z' : ZMap} {φ φ' : PMap} (ts : List Ty) (hf : flatL ts = true) (x : dens ts) (us : Array Value) (h : Reps Z φ (vals ts x) us) : Reps Z' φ' (vals ts x) us := by
 refine ⟨h.1, fun i v u hv hu => ?_⟩
 have key : ∀ (ts : List Ty), flatL ts = true -> ∀ (x : dens ts) (i : Nat) (v : AV), (vals ts x)[i]? = some v -> ∃ (t : Ty) (y : t.den), t.flat = true /\ v = t.val y := by
  intro ts
  induction ts with
  | nil => intro _ x i v hv; simp [vals] at hv
  | cons t ts ih =>
   intro hf x i v hv
   simp only [flatL, List.all_cons, Bool.and_eq_true] at hf
   cases i with
   | zero => simp [vals] at hv; exact ⟨t, x.1, hf.1, hv.symm⟩
   | succ i => exact ih hf.2 x.2 i v (by simpa [vals] using hv)
 obtain ⟨t, y, ht, rfl⟩ := key ts hf x i v hv
 exact val_flat t ht y (h.2 i _ u hv hu)
theorem untup_vals (ts : List Ty) (x : dens ts) : untup ts.length (tupOf (vals ts x)) = vals ts x := by
 by_cases h : ts.length = 1
 ·match ts, h with
  | [t], _ => rfl
 ·rw [vals_get ts x h]
  unfold untup
  split
  ·rename_i h1; exact absurd h1 h
  ·rfl
theorem pcD_ok {P : Program} {k : FuncId} {other : Prop} {as : List AT} {rs : List Ty} {spec : Spec as rs} (hp : PCok P k as rs spec) {avs : List AV} {H : Heap} {nx : Nat} {R : AE -> Heap -> Nat -> Prop} (h : pcD as rs spec avs H nx R other) (ho : other -> SCall P k avs H nx R) : SCall P k avs H nx R := by
 have tupTo : ∀ {Z1 Z2 : ZMap} {φ1 φ2 : PMap} {r : dens rs} {u : Value}, (∀ us, Reps Z1 φ1 (vals rs r) us -> Reps Z2 φ2 (vals rs r) us) -> Rep Z1 φ1 (tupOf (vals rs r)) u -> Rep Z2 φ2 (tupOf (vals rs r)) u := fun {Z1 Z2 φ1 φ2 r u} hall hrep =>
  rep_tup (v := tupOf (vals rs r)) (vs := vals rs r) (untup_vals rs r).symm hrep hall fun hne => ⟨_, vals_get rs r hne⟩
 unfold pcD at h
 split at h
 ·rename_i hflat
  split at h
  rotate_left
  ·exact ho h
  rename_i x ps hd
  rw [allP_iff] at h
  obtain ⟨hps, h⟩ := h
  intro base w0 Z φ w us hH hr
  have hf := frz_froze hH
  have hstart := HRel.start0 (hH.gl.mono (frz_le _ _ _ _)) (frz_z hH)
  have hargs := decAs_ok (φ' := fun _ => none) hH.ownR hf as avs x ps hd hps us hr
  refine (hp x _ h _ _ _ _ _ us hstart hargs).mono fun e w' ⟨Z1, φ1, y, H1, n1, h1, h2, h3, h4, _, _, r, hyr, hR⟩ => ?_
  subst hyr
  cases e <;> try exact h3.elim
  refine ⟨Z, φ, _, H, nx, ZLe.refl _, PLe.refl _, ?_, hH.later h4.below, hR⟩
  exact tupTo (fun us hus => reps_flat rs hflat r us hus) h3
 ·split at h
  rotate_left
  ·exact ho h
  rename_i x ps hd
  rw [allP_iff] at h
  obtain ⟨hps, h⟩ := h
  intro base w0 Z φ w us hH hr
  generalize hL : avs.flatMap namesA = L at hd h
  have hS : Sub (selN L H) H := fun b y hy => by
   rw [get_selN] at hy
   split at hy
   ·exact hy
   ·cases hy
  have hHs := hH.sub hS
  have hf := frz_froze hHs
  have hstart := HRel.start0 (hHs.gl.mono (frz_le _ _ _ _)) (frz_z hHs)
  have hargs := decAs_ok (φ' := fun _ => none) hHs.ownR hf as avs x ps hd hps us hr
  refine (hp x _ h _ _ _ _ _ us hstart hargs).mono fun e w' ⟨Z1, φ1, y, H1, n1, h1, h2, h3, h4, _, _, r, hyr, hR⟩ => ?_
  subst hyr
  cases e <;> try exact h3.elim
  have hl := hH.later h4.below
  have hZ1 : ∀ B, B < w.heap.size -> Z1 B = frz Z φ (selN L H) w B := fun B hB => h4.z0 B hB trivial
  refine ⟨Z1, φ, .ret (tupOf (vals rs r)), dropN L H, nx, hf.1.trans h1, PLe.refl _, tupTo (Z2 := Z1) (φ2 := φ) (fun us hus => reps_free (ZLe.refl _) rs r us hus) h3, ⟨hl.below, h4.z, fun B hB hu => ?_, h4.gl, hl.fnx, fun b y hy => ?_, hl.flt, fun b y hy => ?_, fun b b' y y' l l' hne hy hy' => ?_, fun b y l hy => ?_⟩, hR⟩
  ·rw [hZ1 B (Nat.lt_of_lt_of_le hB hH.below.size)]
   rcases frz_cases (Z := Z) (φ := φ) (H := selN L H) (w := w) B with g1 | ⟨_, ⟨b, y, l, hb, hl', rfl⟩, _⟩
   ·rw [g1]; exact hH.z0 B hB hu
   ·have := hHs.ob b y l hb hl' hu; omega
  all_goals rw [get_dropN] at hy
  ·split at hy
   ·cases hy
   ·exact hl.hnx b y hy
  ·split at hy
   ·cases hy
   ·rename_i hc
    rcases hl.own' b y hy with hg | ⟨l, hl1, hz, hrl⟩
    ·exact .inl hg
    ·refine .inr ⟨l, hl1, ?_, hrl.mono (hf.1.trans h1) (PLe.refl _) rfl⟩
     rw [hZ1 l.B (hH.flt _ _ hl1)]
     rcases frz_cases (Z := Z) (φ := φ) (H := selN L H) (w := w) l.B with g1 | ⟨_, ⟨b2, y2, l2, hb2, hl2, he⟩, _⟩
     ·rw [g1]; exact hz
     ·rw [get_selN] at hb2
      split at hb2
      ·rename_i hc2
       exact absurd he (hH.inj b2 b y2 y l2 l (fun e => hc (e ▸ hc2)) hb2 hy hl2 hl1)
      ·cases hb2
  ·rw [get_dropN] at hy'
   split at hy
   ·cases hy
   ·split at hy'
    ·cases hy'
    ·exact hl.inj b b' y y' l l' hne hy hy'
  ·split at hy
   ·cases hy
   ·exact hl.ob b y l hy
end Go.Lom

/- Loops: the shape of their states, and how they are proved. No conditions of its own. -/
namespace Go.Lom
open Go.RowKit
inductive Sh where
 | v (t : Ty)
 | a (t : AT)
 | own (t : Ty)
 | box (t : Ty)
 | boxOwn (t : Ty)
 | fn (k : Nat) (first cap : List Nat)
abbrev Sh.den : Sh -> Type
 | .v t => t.den
 | .a t => t.den
 | .own t => List t.den
 | .box t => t.den
 | .boxOwn t => List t.den
 | .fn _ _ _ => Unit
abbrev Shape := List (Nat × Sh)
abbrev shDen : Shape -> Type
 | [] => Unit
 | p :: s => p.2.den × shDen s
def put1 (d : Nat) : (h : Sh) -> h.den -> Fr × Heap × Nat -> Fr × Heap × Nat
 | .v t, x, (F, H, n) => ((d, t.val x) :: F, H, n)
 | .a t, x, (F, H, n) => ((d, t.val x) :: F, H, n)
 | .own t, xs, (F, H, n) => ((d, .sl n t.sz 0 xs.length none) :: F, (n, .lst t xs) :: H, n + 1)
 | .box t, x, (F, H, n) => ((d, .ptr n 0 0) :: F, (n, .row t.sz [t.enc x]) :: H, n + 1)
 | .boxOwn t, xs, (F, H, n) => ((d, .ptr (n + 1) 0 0) :: F, (n + 1, .row 1 [[.sl n t.sz 0 xs.length none]]) :: (n, .lst t xs) :: H, n + 2)
 | .fn k first cap, _, (F, H, n) => ((d, .fn (.func k) (first.map F.get) (cap.map F.get)) :: F, H, n)
def putAll : (s : Shape) -> shDen s -> Fr × Heap × Nat -> Fr × Heap × Nat
 | [], _, a => a
 | p :: s, x, a => putAll s x.2 (put1 p.1 p.2 x.1 a)
def shSt (s : Shape) (x : shDen s) : St :=
 match putAll s x ([], [], 0) with
 | (F, H, n) => ⟨F, H, n, []⟩
def nameL : AV -> List Nat
 | .sl b _ _ _ _ => [b]
 | _ => []
def own1 (σ : St) (d : Nat) : Sh -> List Nat
 | .own _ => nameL (σ.fr.get d)
 | .box _ => match σ.fr.get d with
  | .ptr b _ _ => [b]
  | _ => []
 | .boxOwn _ => match σ.fr.get d with
  | .ptr b _ _ => match σ.H.get b with
   | some (.row _ [[v]]) => nameL v ++ [b]
   | _ => [b]
  | _ => []
 | _ => []
def ownN (σ : St) : Shape -> List Nat
 | [] => []
 | p :: s => own1 σ p.1 p.2 ++ ownN σ s
def listD (H : Heap) (t : Ty) (v : AV) : Option (List t.den × List Bool) :=
 match v with
 | .nils => some ([], [])
 | .emp => some ([], [])
 | .sl b s off len c => elemsD H t (t.dec []) (.sl b s off len c)
 | _ => none
def sameP : AV -> AV -> Bool
 | .ptr b i o, .ptr c j p => b == c && i == j && o == p
 | _, _ => false
def samePs : List AV -> List AV -> Bool
 | [], [] => true
 | x :: l, y :: m => sameP x y && samePs l m
 | _, _ => false
def get1 (σ : St) (Hf : Heap) (d : Nat) : (h : Sh) -> Option (h.den × List Bool)
 | .v t => t.decV Hf (σ.fr.get d)
 | .a t => t.dec Hf (σ.fr.get d)
 | .own t => listD σ.H t (σ.fr.get d)
 | .box t => match σ.fr.get d with
  | .ptr b 0 0 => match σ.H.get b with
   | some (.row _ [cs]) => t.dec Hf cs
   | _ => none
  | _ => none
 | .boxOwn t => match σ.fr.get d with
  | .ptr b 0 0 => match σ.H.get b with
   | some (.row _ [[v]]) => listD σ.H t v
   | _ => none
  | _ => none
 | .fn k first cap => match σ.fr.get d with
  | .fn (.func k') a b => if k = k' /\ samePs a (first.map σ.fr.get) = true /\ samePs b (cap.map σ.fr.get) = true then some ((), []) else none
  | _ => none
def getAll (σ : St) (Hf : Heap) : (s : Shape) -> Option (shDen s × List Bool)
 | [] => some ((), [])
 | p :: s => pairD (get1 σ Hf p.1 p.2) (getAll σ Hf s)
def noDup : List Nat -> Bool
 | [] => true
 | a :: l => !l.contains a && noDup l
def exSt (s : Shape) (σ : St) : Option (shDen s × List Bool) :=
 match σ.df with
 | [] => match noDup (ownN σ s) with
  | true => getAll σ (dropN (ownN σ s) σ.H) s
  | false => none
 | _ => none
def Ent (σ σ' : St) : Prop := ∀ P base w0 Z φ N a w, SRel P base w0 Z φ N σ a w -> ∃ Z' φ', ZLe Z Z' /\ SRel P base w0 Z' φ' N σ' a w
section
variable {base : Nat -> Prop} {w0 : Start} {Z Z' : ZMap} {φ φ' : PMap} {H : Heap} {nx : Nat} {w w' : World}
theorem HRel.intro (h : HRel base w0 Z φ H nx w) {x : Blk} {l : Loc} (hz : Z l.B = none) (hlt : l.B < w.heap.size) (hob : base l.B -> w0.world.heap.size <= l.B) (hdis : ∀ i y l', H.get i = some y -> φ i = some l' -> l'.B ≠ l.B)
  (hx : blkRel Z (φ.set nx l) w l x) : HRel base w0 Z (φ.set nx l) ((nx, x) :: H) (nx + 1) w := by
 have hfr := h.fresh (Nat.le_refl nx)
 have hle := PMap.le_set (x := l) hfr
 have look : ∀ c z, Heap.get ((nx, x) :: H) c = some z -> (c = nx /\ z = x) \/ (c ≠ nx /\ H.get c = some z) := by
  intro c z hz
  simp only [Heap.get] at hz
  by_cases e : c = nx
  ·rw [if_pos e] at hz; injection hz with hz; exact .inl ⟨e, hz.symm⟩
  ·rw [if_neg e] at hz; exact .inr ⟨e, hz⟩
 have lk : ∀ c l', (φ.set nx l) c = some l' -> (c = nx /\ l' = l) \/ (c ≠ nx /\ φ c = some l') := by
  intro c l' hc
  unfold PMap.set at hc
  by_cases e : c = nx
  ·rw [if_pos e] at hc; injection hc with hc; exact .inl ⟨e, hc.symm⟩
  ·rw [if_neg e] at hc; exact .inr ⟨e, hc⟩
 refine ⟨h.below, h.z, h.z0, h.gl, fun c l' hc => ?_, fun c z hz => ?_, fun c l' hc => ?_, fun c z hz' => ?_, fun c c' z z' l1 l2 hne hc hc' h1 h2 => ?_, fun c z l1 hc h1 hu => ?_⟩
 ·rcases lk c l' hc with ⟨e, _⟩ | ⟨_, g⟩
  ·rw [e]; exact Nat.lt_succ_self _
  ·exact Nat.lt_succ_of_lt (h.fnx c l' g)
 ·rcases look c z hz with ⟨e, _⟩ | ⟨_, g⟩
  ·rw [e]; exact Nat.lt_succ_self _
  ·exact Nat.lt_succ_of_lt (h.hnx c z g)
 ·rcases lk c l' hc with ⟨_, e⟩ | ⟨_, g⟩
  ·rw [e]; exact hlt
  ·exact h.flt c l' g
 ·rcases look c z hz' with ⟨e1, e2⟩ | ⟨hne, g⟩
  ·rw [e1, e2]; exact .inr ⟨l, PMap.set_self _ _ _, hz, hx⟩
  ·rcases h.own' c z g with ⟨hg, hf⟩ | ⟨l', hf, hz2, hr⟩
   ·exact .inl ⟨hg, by unfold PMap.set; rw [if_neg hne]; exact hf⟩
   ·exact .inr ⟨l', hle _ _ hf, hz2, hr.mono (ZLe.refl _) hle rfl⟩
 ·rcases look c z hc with ⟨e1, _⟩ | ⟨n1, g1⟩
  ·rcases look c' z' hc' with ⟨e2, _⟩ | ⟨n2, g2⟩
   ·exact absurd (e1.trans e2.symm) hne
   ·rcases lk _ _ h1 with ⟨_, e3⟩ | ⟨n3, _⟩
    ·rcases lk _ _ h2 with ⟨e, _⟩ | ⟨_, k2⟩
     ·exact absurd e n2
     ·rw [e3]; exact fun e => hdis c' z' l2 g2 k2 e.symm
    ·exact absurd e1 n3
  ·rcases lk _ _ h1 with ⟨e, _⟩ | ⟨_, k1⟩
   ·exact absurd e n1
   ·rcases look c' z' hc' with ⟨e2, _⟩ | ⟨n2, g2⟩
    ·rcases lk _ _ h2 with ⟨_, e3⟩ | ⟨n3, _⟩
     ·rw [e3]; exact hdis c z l1 g1 k1
     ·exact absurd e2 n3
    ·rcases lk _ _ h2 with ⟨e, _⟩ | ⟨_, k2⟩
     ·exact absurd e n2
     ·exact h.inj c c' z z' l1 l2 hne g1 g2 k1 k2
 ·rcases look c z hc with ⟨e1, _⟩ | ⟨n1, g1⟩
  ·rcases lk _ _ h1 with ⟨_, e3⟩ | ⟨n3, _⟩
   ·rw [e3] at hu ⊢; exact hob hu
   ·exact absurd e1 n3
  ·rcases lk _ _ h1 with ⟨e, _⟩ | ⟨_, k1⟩
   ·exact absurd e n1
   ·exact h.ob c z l1 g1 k1 hu
theorem HRel.introGhost (h : HRel base w0 Z φ H nx w) (t : Ty) : HRel base w0 Z φ ((nx, .lst t []) :: H) (nx + 1) w :=
 (h.ghostNew t).sub fun c z hz => by
  rw [Heap.get_set]
  simp only [Heap.get] at hz
  exact hz
theorem noDup_nodup : ∀ {l : List Nat}, noDup l = true -> l.Nodup
 | [], _ => List.nodup_nil
 | a :: l, h => by
  simp only [noDup, Bool.and_eq_true, Bool.not_eq_true', List.contains_eq_mem, decide_eq_false_iff_not] at h
  exact List.nodup_cons.2 ⟨h.1, noDup_nodup h.2⟩
theorem rowRel_to {l : Loc} {s : Nat} {t : Ty} {es : List (List AV)} {xs : List t.den} (h : rowRel Z φ w l s es) (hs : s = t.sz) (hl : xs.length = es.length)
  (hw : ∀ (i : Nat) (e : List AV), es[i]? = some e -> ∃ x, xs[i]? = some x /\ WeakC Z Z' φ φ' e (t.enc x)) : rowRel Z' φ' w l t.sz (xs.map t.enc) := by
 obtain ⟨h1, h2, c, T, fz, h3, h4, h5, h6⟩ := h
 refine ⟨by rw [<- hs, h1], by simp; omega, c, T, fz, h3, h4, h5, fun i e hi => ?_⟩
 have hil : i < es.length := by have := (List.getElem?_eq_some_iff.1 hi).1; simp at this; omega
 obtain ⟨x, hx, hwk⟩ := hw i _ (List.getElem?_eq_getElem hil)
 rw [List.getElem?_map, hx] at hi
 simp only [Option.map_some, Option.some.injEq] at hi
 subst hi
 obtain ⟨g1, g2, g3⟩ := h6 i _ (List.getElem?_eq_getElem hil)
 refine ⟨by rw [<- hwk.1]; exact g1, t.enc_oneC x, fun j v hj => ?_⟩
 have hjl : j < es[i].length := by rw [hwk.1]; exact (List.getElem?_eq_some_iff.1 hj).1
 obtain ⟨u, hu, hr⟩ := g3 j _ (List.getElem?_eq_getElem hjl)
 obtain ⟨v', hv', hr'⟩ := hwk.2 j _ (List.getElem?_eq_getElem hjl)
 rw [hj] at hv'; injection hv' with hv'; subst hv'
 exact ⟨u, hu, hr' u hr⟩
theorem WeakS.to {cs : List AV} {t : Ty} {x : t.den} (h : WeakS cs (t.enc x)) (hZ : ZLe Z Z') : WeakC Z Z' φ φ' cs (t.enc x) :=
 ⟨(h Z φ).1, fun j v hj => let ⟨v', h1, h2⟩ := (h Z φ).2 j v hj; ⟨v', h1, fun u hu => enc_free hZ t x j v' u h1 (h2 u hu)⟩⟩
theorem elemsD_sl {t : Ty} {b s off len : Nat} {c : Option Nat} {xs : List t.den} {ps : List Bool} (h : elemsD H t (t.dec []) (.sl b s off len c) = some (xs, ps)) (hp : ∀ p ∈ ps, p = true) :
  ∃ blk s4 es, H.get b = some blk /\ asRow blk = some (s4, es) /\ s = t.sz /\ off + len <= es.length /\ xs.length = len /\ ∀ (i : Nat) (e : List AV), (seg off len es)[i]? = some e -> ∃ x, xs[i]? = some x /\ WeakS e (t.enc x) := by
 unfold elemsD at h
 simp only at h
 split at h
 rotate_left
 ·cases h
 rename_i hs
 split at h
 ·rename_i t' zs hb
  split at h
  ·rename_i ht
   subst ht
   simp only [Option.some.injEq, Prod.mk.injEq] at h
   obtain ⟨rfl, rfl⟩ := h
   have hle : off + len <= zs.length := of_decide_eq_true (hp _ (List.mem_singleton.2 rfl))
   refine ⟨_, _, _, hb, rfl, hs, by simpa using hle, by simp [seg, castL_self]; omega, fun i e hi => ?_⟩
   have e1 : seg off len (zs.map t'.enc) = (seg off len zs).map t'.enc := by simp [seg, List.map_take, List.map_drop]
   rw [e1, List.getElem?_map] at hi
   cases hy : (seg off len zs)[i]? with
   | none => rw [hy] at hi; cases hi
   | some y => rw [hy] at hi; injection hi with hi; subst hi; exact ⟨y, hy, WeakS.refl _⟩
  ·cases h
 ·rename_i s4 es hb
  split at h
  ·rename_i hle
   obtain ⟨k1, k2⟩ := mapD_get h
   refine ⟨_, _, _, hb, rfl, hs, hle, by rw [<- k1]; simp [seg]; omega, fun i e hi => ?_⟩
   obtain ⟨x, p, hx, hd, hq⟩ := k2 i e hi
   exact ⟨x, hx, dec_weak hd fun q hq' => hp q (hq q hq')⟩
  ·cases h
 ·cases h
structure Half (base : Nat -> Prop) (w0 : Start) (Zf : ZMap) (φ0 : PMap) (H0 : Heap) (tmps : Array Value) (w : World) (φ : PMap) (used : List Nat) (F : Fr) (H : Heap) (n : Nat) : Prop where
 heap : HRel base w0 Zf φ H n w
 src : ∀ i y l, H.get i = some y -> φ i = some l -> ∃ b ∈ used, ∃ y0 l0, H0.get b = some y0 /\ φ0 b = some l0 /\ l0.B = l.B
 fr : FrRel Zf φ F tmps
theorem list_step {H0 : Heap} {φ0 : PMap} {n0 : Nat} (hh : HRel base w0 Z φ0 H0 n0 w) (hZ : ZLe Z Z') {F : Fr} {n : Nat} {tmps : Array Value} {used : List Nat} (hf : Half base w0 Z' φ0 H0 tmps w φ used F H n)
  {t : Ty} {v : AV} {u : Value} {xs : List t.den} {ps : List Bool} (hv : Rep Z φ0 v u) (h : listD H0 t v = some (xs, ps)) (hp : ∀ p ∈ ps, p = true)
  (hfree : ∀ b s off len c, v = .sl b s off len c -> b ∉ used /\ ∀ y l, H0.get b = some y -> φ0 b = some l -> Z' l.B = none) :
  ∃ φ', PLe φ φ' /\ Rep Z' φ' (.sl n t.sz 0 xs.length none) u /\ Half base w0 Z' φ0 H0 tmps w φ' (used ++ nameL v) F ((n, .lst t xs) :: H) (n + 1) := by
 have ghost : ∀ ao (more : List Nat), u = .slice ao 0 0 -> xs = [] -> ∃ φ', PLe φ φ' /\ Rep Z' φ' (.sl n t.sz 0 xs.length none) u /\ Half base w0 Z' φ0 H0 tmps w φ' (used ++ more) F ((n, .lst t xs) :: H) (n + 1) := by
  intro ao more hu hx
  subst hu hx
  refine ⟨φ, PLe.refl _, ?_, hf.heap.introGhost t, fun i y l hi hl => ?_, hf.fr⟩
  ·cases ao with
   | none => exact .sl0n (cap := none) (Nat.le_refl 0)
   | some a => exact .sl0s (cap := none) (Nat.le_refl 0) a
  ·have hne : i ≠ n := by rintro rfl; rw [hf.heap.fresh (Nat.le_refl i)] at hl; cases hl
   simp only [Heap.get] at hi
   rw [if_neg hne] at hi
   obtain ⟨b, hb, r⟩ := hf.src i y l hi hl
   exact ⟨b, List.mem_append_left _ hb, r⟩
 unfold listD at h
 split at h
 ·cases hv
  simp only [Option.some.injEq, Prod.mk.injEq] at h
  exact ghost none _ rfl h.1.symm
 ·cases hv
  simp only [Option.some.injEq, Prod.mk.injEq] at h
  exact ghost (some _) _ rfl h.1.symm
 ·rename_i b s off len c
  obtain ⟨blk, s4, es, hb, hrow, hs, hle, hxl, hw⟩ := elemsD_sl h hp
  cases hv with
  | sl0n hc => exact ghost none _ rfl (List.eq_nil_of_length_eq_zero hxl)
  | sl0s hc a => exact ghost (some a) _ rfl (List.eq_nil_of_length_eq_zero hxl)
  | sl hl hls hc hlc hlm ha =>
   rename_i cc l a
   obtain ⟨hz0, hr⟩ := hh.rowOf hb hrow hl
   have hs4 : s4 = t.sz := by rw [hr.1, hls, hs]
   obtain ⟨hnu, hzn⟩ := hfree b s off len c rfl
   have hseg : (seg off len es).length = len := by simp [seg]; omega
   have hle2 := PMap.le_set (x := ⟨l.B, l.ob + off * l.s, l.s, l.lim - off⟩) (hf.heap.fresh (Nat.le_refl n))
   have hr2 : rowRel Z' (φ.set n ⟨l.B, l.ob + off * l.s, l.s, l.lim - off⟩) w ⟨l.B, l.ob + off * l.s, l.s, l.lim - off⟩ t.sz (xs.map t.enc) :=
    rowRel_to (row_shift hr hle) hs4 (by omega) fun i e hi => let ⟨x, h1, h2⟩ := hw i e hi; ⟨x, h1, h2.to hZ⟩
   refine ⟨_, hle2, ?_, hf.heap.intro (x := .lst t xs) (l := ⟨l.B, l.ob + off * l.s, l.s, l.lim - off⟩) (show Z' l.B = none from hzn _ l hb hl) (show l.B < _ from hh.flt _ l hl) (hh.ob _ _ l hb hl) (fun i y l' hi hl' e => ?_) hr2, fun i y l' hi hl' => ?_, hf.fr.mono (ZLe.refl _) hle2⟩
   ·rw [hxl]
    refine .sl (PMap.set_self _ _ _) (by simp only; rw [hls, hs]) hlc hlc (by simp only; omega) ?_
    rcases ha with rfl | h0
    ·left; simp only [Nat.zero_mul, Nat.add_zero]; rw [hls]
    ·exact .inr h0
   ·obtain ⟨b2, hb2, y0, l0, g1, g2, g3⟩ := hf.src i y l' hi hl'
    have hne : b2 ≠ b := fun e => hnu (e ▸ hb2)
    exact hh.inj b2 b y0 blk l0 l hne g1 hb g2 hl (by rw [g3, e])
   ·simp only [Heap.get] at hi
    unfold PMap.set at hl'
    by_cases e : i = n
    ·rw [if_pos e] at hl'; injection hl' with hl'
     exact ⟨b, List.mem_append_right _ (List.mem_singleton.2 rfl), blk, l, hb, hl, by rw [<- hl']⟩
    ·rw [if_neg e] at hi hl'
     obtain ⟨b2, hb2, r⟩ := hf.src i y l' hi hl'
     exact ⟨b2, List.mem_append_left _ hb2, r⟩
 ·cases h
theorem frRel_cons {F : Fr} {tmps : Array Value} {d : Nat} {v : AV} (h : FrRel Z φ F tmps) (hv : Rep Z φ v (tmps.getD d Go.undef)) : FrRel Z φ ((d, v) :: F) tmps := by
 intro t
 simp only [Fr.get]
 by_cases e : t = d
 ·subst e; rw [if_pos rfl]; exact hv
 ·rw [if_neg e]; exact h t
theorem ptr_unique {Z1 Z2 : ZMap} {b i o : Nat} {u u' : Value} (h : Rep Z1 φ (.ptr b i o) u) (h' : Rep Z2 φ (.ptr b i o) u') : u = u' := by
 cases h with
 | ptr h1 => cases h' with
  | ptr h2 => rw [h1] at h2; injection h2 with h2; subst h2; rfl
theorem samePs_rep {F0 F : Fr} {φ0 : PMap} {tmps : Array Value} (h0 : FrRel Z φ0 F0 tmps) (h1 : FrRel Z' φ F tmps) : ∀ (l : List Nat) (a : List AV), samePs a (l.map F0.get) = true -> ∀ us : Array Value, Reps Z φ0 a us -> Reps Z' φ (l.map F.get) us := by
 intro l
 induction l with
 | nil =>
  intro a h us hr
  cases a with
  | nil => exact ⟨hr.1, fun i v u hv => by simp at hv⟩
  | cons _ _ => simp [samePs] at h
 | cons c l ih =>
  intro a h us hr
  cases a with
  | nil => simp [samePs] at h
  | cons x a =>
   simp only [List.map_cons, samePs, Bool.and_eq_true] at h
   have hsz := hr.1
   simp only [List.length_cons] at hsz
   have tail := ih a h.2 (us.toList.tail.toArray) ⟨by simp [hsz], fun i v u hv hu => hr.2 (i + 1) v u (by simpa using hv) (by
    rw [List.getElem?_toArray, List.getElem?_tail, Array.getElem?_toList] at hu; exact hu)⟩
   refine ⟨by have := tail.1; simp [hsz] at this ⊢; omega, fun i v u hv hu => ?_⟩
   cases i with
   | zero =>
    simp only [List.map_cons, List.getElem?_cons_zero, Option.some.injEq] at hv
    subst hv
    have hx := hr.2 0 x u rfl hu
    have hs := h.1
    unfold sameP at hs
    split at hs
    ·rename_i b i o b' i' o' hc
     simp only [Bool.and_eq_true, beq_iff_eq] at hs
     obtain ⟨⟨rfl, rfl⟩, rfl⟩ := hs
     have h2 := h0 c
     rw [hc] at h2
     rw [ptr_unique hx h2]
     exact h1 c
    ·cases hs
   | succ i =>
    refine tail.2 i v u (by simpa using hv) ?_
    rw [List.getElem?_toArray, List.getElem?_tail, Array.getElem?_toList]; exact hu
theorem step1 {σ : St} {Hf : Heap} {tmps : Array Value} {φ0 : PMap} (hh : HRel base w0 Z φ0 σ.H σ.nx w) (hfr : FrRel Z φ0 σ.fr tmps) (hsub : Sub Hf σ.H) (hfz : Froze φ0 Hf w Z Z') {used : List Nat} {F : Fr} {n : Nat} (hf : Half base w0 Z' φ0 σ.H tmps w φ used F H n)
  {d : Nat} {h : Sh} {x : h.den} {ps : List Bool} (hg : get1 σ Hf d h = some (x, ps)) (hp : ∀ p ∈ ps, p = true) (hnd : (used ++ own1 σ d h).Nodup) (hzn : ∀ b ∈ own1 σ d h, ∀ y l, σ.H.get b = some y -> φ0 b = some l -> Z' l.B = none) :
  ∃ φ', PLe φ φ' /\ Half base w0 Z' φ0 σ.H tmps w φ' (used ++ own1 σ d h) (put1 d h x (F, H, n)).1 (put1 d h x (F, H, n)).2.1 (put1 d h x (F, H, n)).2.2 := by
 have hd := hfr d
 have notin : ∀ b ∈ own1 σ d h, b ∉ used := fun b hb hu => (List.nodup_append.1 hnd).2.2 b hu b hb rfl
 cases h with
 | v t =>
  refine ⟨φ, PLe.refl _, hf.heap, ?_, frRel_cons hf.fr (decV_ok (hh.sub hsub).ownR hfz hg hp hd)⟩
  simp only [own1, List.append_nil]; exact hf.src
 | a t =>
  refine ⟨φ, PLe.refl _, hf.heap, ?_, frRel_cons hf.fr (decA_ok (hh.sub hsub).ownR hfz hg hp hd)⟩
  simp only [own1, List.append_nil]; exact hf.src
 | own t =>
  have hg : listD σ.H t (σ.fr.get d) = some (x, ps) := hg
  obtain ⟨φ', h1, h2, h3⟩ := list_step hh hfz.1 hf hd hg hp (fun b s off len c hv => by
   have hmem : b ∈ own1 σ d (.own t) := by simp [own1, nameL, hv]
   exact ⟨notin b hmem, hzn b hmem⟩)
  exact ⟨φ', h1, h3.heap, h3.src, frRel_cons h3.fr h2⟩
 | box t =>
  simp only [get1] at hg
  split at hg
  rotate_left
  ·cases hg
  rename_i b hbv
  split at hg
  rotate_left
  ·cases hg
  rename_i s4 cs hb
  have hmem : own1 σ d (.box t) = [b] := by simp [own1, hbv]
  rw [hmem] at hzn notin ⊢
  rw [hbv] at hd
  generalize hu : tmps.getD d Go.undef = u at hd
  cases hd with
  | ptr hl =>
   rename_i l
   obtain ⟨hz0, hr⟩ := hh.ownAt hb hl
   have hr : rowRel Z φ0 w l s4 [cs] := hr
   have hle2 := PMap.le_set (x := l) (hf.heap.fresh (Nat.le_refl n))
   have hwk := dec_ok (φ' := φ.set n l) (hh.sub hsub).ownR hfz t cs x ps hg hp
   have hcs : cs.length = l.s := by obtain ⟨_, _, c, T, fz, _, _, _, h6⟩ := hr; exact (h6 0 cs rfl).1
   have hs4 : s4 = t.sz := by rw [hr.1, <- hcs, hwk.1, Ty.enc_length]
   have hr2 : rowRel Z' (φ.set n l) w l t.sz ([x].map t.enc) := rowRel_to hr hs4 rfl fun i e hi => by
    cases i <;> simp at hi
    subst hi; exact ⟨x, rfl, hwk⟩
   refine ⟨_, hle2, hf.heap.intro (x := .row t.sz [t.enc x]) (l := l) (hzn b (List.mem_singleton.2 rfl) _ _ hb hl) (hh.flt _ _ hl) (hh.ob _ _ _ hb hl) (fun i y l' hi hl' e => ?_) hr2, fun i y l' hi hl' => ?_, frRel_cons (hf.fr.mono (ZLe.refl _) hle2) ?_⟩
   ·obtain ⟨b2, hb2, y0, l0, g1, g2, g3⟩ := hf.src i y l' hi hl'
    have hne : b2 ≠ b := fun e => notin b (List.mem_singleton.2 rfl) (e ▸ hb2)
    exact hh.inj b2 b y0 _ l0 l hne g1 hb g2 hl (by rw [g3, e])
   ·simp only [put1, Heap.get] at hi
    unfold PMap.set at hl'
    by_cases e : i = n
    ·rw [if_pos e] at hl'; injection hl' with hl'
     exact ⟨b, List.mem_append_right _ (List.mem_singleton.2 rfl), _, l, hb, hl, by rw [<- hl']⟩
    ·rw [if_neg e] at hi hl'
     obtain ⟨b2, hb2, r⟩ := hf.src i y l' hi hl'
     exact ⟨b2, List.mem_append_left _ hb2, r⟩
   ·rw [hu]; exact .ptr (PMap.set_self _ _ _)
 | boxOwn t =>
  simp only [get1] at hg
  split at hg
  rotate_left
  ·cases hg
  rename_i b hbv
  split at hg
  rotate_left
  ·cases hg
  rename_i s4 v hb
  rw [hbv] at hd
  generalize hu : tmps.getD d Go.undef = u at hd
  cases hd with
  | ptr hl =>
   rename_i l
   obtain ⟨hz0, hr⟩ := hh.ownAt hb hl
   obtain ⟨r1, r2, c, T, fz, r3, r4, r5, r6⟩ := (show rowRel Z φ0 w l s4 [[v]] from hr)
   obtain ⟨g1, g2, g3⟩ := r6 0 [v] rfl
   obtain ⟨u2, hu2, hv2⟩ := g3 0 v rfl
   have hmem : own1 σ d (.boxOwn t) = nameL v ++ [b] := by simp [own1, hbv, hb]
   have hmemb : b ∈ own1 σ d (.boxOwn t) := by rw [hmem]; simp
   obtain ⟨φ1, h1, h2, h3⟩ := list_step hh hfz.1 hf hv2 hg hp (fun b2 s off len c' hv => by
    have hm : b2 ∈ own1 σ d (.boxOwn t) := by rw [hmem, hv]; simp [nameL]
    exact ⟨notin b2 hm, hzn b2 hm⟩)
   have hle2 := PMap.le_set (x := l) (h3.heap.fresh (Nat.le_refl (n + 1)))
   have hls : l.s = 1 := by rw [<- g1]; rfl
   have hr2 : rowRel Z' (φ1.set (n + 1) l) w l 1 [[.sl n t.sz 0 x.length none]] := by
    refine ⟨hls.symm, r2, c, T, fz, r3, r4, r5, fun i e hi => ?_⟩
    cases i <;> simp at hi
    subst hi
    refine ⟨by rw [hls]; rfl, rfl, fun j v' hj => ?_⟩
    cases j <;> simp at hj
    subst hj
    exact ⟨u2, hu2, h2.mono (ZLe.refl _) hle2⟩
   rw [hmem, <- List.append_assoc]
   refine ⟨_, h1.trans hle2, h3.heap.intro (x := .row 1 [[.sl n t.sz 0 x.length none]]) (l := l) (hzn b hmemb _ _ hb hl) (hh.flt _ _ hl) (hh.ob _ _ _ hb hl) (fun i y l' hi hl' e => ?_) hr2, fun i y l' hi hl' => ?_, frRel_cons (h3.fr.mono (ZLe.refl _) hle2) ?_⟩
   ·obtain ⟨b2, hb2, y0, l0, k1, k2, k3⟩ := h3.src i y l' hi hl'
    have hne : b2 ≠ b := fun e => by
     rw [hmem, <- List.append_assoc] at hnd
     exact (List.nodup_append.1 hnd).2.2 b2 hb2 b (List.mem_singleton.2 rfl) e
    exact hh.inj b2 b y0 _ l0 l hne k1 hb k2 hl (by rw [k3, e])
   ·simp only [put1] at hi
    rw [Heap.get] at hi
    unfold PMap.set at hl'
    by_cases e : i = n + 1
    ·rw [if_pos e] at hl'; injection hl' with hl'
     exact ⟨b, List.mem_append_right _ (List.mem_singleton.2 rfl), _, l, hb, hl, by rw [<- hl']⟩
    ·rw [if_neg e] at hi hl'
     obtain ⟨b2, hb2, r⟩ := h3.src i y l' hi hl'
     exact ⟨b2, List.mem_append_left _ hb2, r⟩
   ·rw [hu]; exact .ptr (PMap.set_self _ _ _)
 | fn k first cap =>
  simp only [get1] at hg
  split at hg
  rotate_left
  ·cases hg
  rename_i k' a b hv
  split at hg
  rotate_left
  ·cases hg
  rename_i hc
  obtain ⟨rfl, hc1, hc2⟩ := hc
  refine ⟨φ, PLe.refl _, hf.heap, by simp only [own1, List.append_nil]; exact hf.src, frRel_cons hf.fr ?_⟩
  rw [hv] at hd
  generalize hu : tmps.getD d Go.undef = u at hd
  cases hd with
  | fn hx hy g1 g2 =>
   have q1 := samePs_rep hfr hf.fr first a hc1 _ ⟨hx, g1⟩
   have q2 := samePs_rep hfr hf.fr cap b hc2 _ ⟨hy, g2⟩
   exact .fn q1.1 q2.1 q1.2 q2.2
end
end Go.Lom

/- Loops and functions by their contracts: the tables, and what is to be shown. No conditions of its own. -/
namespace Go.Lom
open Go.RowKit
section
variable {base : Nat -> Prop} {w0 : Start} {Z Z' : ZMap} {φ φ' : PMap} {H : Heap} {nx : Nat} {w w' : World}
theorem getAll_ok {σ : St} {Hf : Heap} {tmps : Array Value} {φ0 : PMap} (hh : HRel base w0 Z φ0 σ.H σ.nx w) (hfr : FrRel Z φ0 σ.fr tmps) (hsub : Sub Hf σ.H) (hfz : Froze φ0 Hf w Z Z') : ∀ (s : Shape) (x : shDen s) (ps : List Bool) (φ : PMap) (used : List Nat) (F : Fr) (H : Heap) (n : Nat),
  Half base w0 Z' φ0 σ.H tmps w φ used F H n -> getAll σ Hf s = some (x, ps) -> (∀ p ∈ ps, p = true) -> (used ++ ownN σ s).Nodup -> (∀ b ∈ ownN σ s, ∀ y l, σ.H.get b = some y -> φ0 b = some l -> Z' l.B = none) ->
  ∃ φ', Half base w0 Z' φ0 σ.H tmps w φ' (used ++ ownN σ s) (putAll s x (F, H, n)).1 (putAll s x (F, H, n)).2.1 (putAll s x (F, H, n)).2.2
 | [], x, ps, φ, used, F, H, n, hf, _, _, _, _ => ⟨φ, by simpa [ownN, putAll] using hf⟩
 | p :: s, x, ps, φ, used, F, H, n, hf, hg, hp, hnd, hzn => by
  have hg : pairD (get1 σ Hf p.1 p.2) (getAll σ Hf s) = some (x, ps) := hg
  unfold pairD at hg
  split at hg
  ·rename_i y q hy
   split at hg
   ·rename_i z r hz
    simp only [Option.some.injEq, Prod.mk.injEq] at hg
    obtain ⟨rfl, rfl⟩ := hg
    simp only [ownN] at hnd hzn ⊢
    rw [<- List.append_assoc] at hnd ⊢
    obtain ⟨φ1, _, h1⟩ := step1 hh hfr hsub hfz hf hy (fun p hp' => hp p (List.mem_append_left _ hp')) (List.nodup_append.1 hnd).1 fun b hb => hzn b (List.mem_append_left _ hb)
    exact getAll_ok hh hfr hsub hfz s z r φ1 _ _ _ _ h1 hz (fun p hp' => hp p (List.mem_append_right _ hp')) hnd fun b hb => hzn b (List.mem_append_right _ hb)
   ·cases hg
  ·cases hg
end
theorem exSt_ok {s : Shape} {σ : St} {x : shDen s} {ps : List Bool} (h : exSt s σ = some (x, ps)) (hp : ∀ p ∈ ps, p = true) : Ent σ (shSt s x) := by
 intro P base w0 Z φ N a w hs
 unfold exSt at h
 split at h
 rotate_left
 ·cases h
 rename_i hdf
 split at h
 rotate_left
 ·cases h
 rename_i hnd
 have hsub : Sub (dropN (ownN σ s) σ.H) σ.H := fun b y hy => by
  rw [get_dropN] at hy
  split at hy
  ·cases hy
  ·exact hy
 have hHf := hs.heap.sub hsub
 have hstart : Half base w0 (frz Z φ (dropN (ownN σ s) σ.H) w) φ σ.H a.tmps w (fun _ => none) [] [] [] 0 :=
  ⟨hHf.frozen (fun b x h => (nomatch h)), (fun i y l h => by simp [Heap.get] at h), fun t => Rep.undef _⟩
 obtain ⟨φ', hf⟩ := getAll_ok hs.heap hs.fr hsub (frz_froze hHf) s x ps _ [] [] [] 0 hstart h hp (by simpa using noDup_nodup hnd) fun b hb y l hy hl => by
  have hz := (hs.heap.ownAt hy hl).1
  rcases frz_cases (Z := Z) (φ := φ) (H := dropN (ownN σ s) σ.H) (w := w) l.B with g1 | ⟨_, ⟨b2, y2, l2, hb2, hl2, he⟩, _⟩
  ·rw [g1]; exact hz
  ·rw [get_dropN] at hb2
   split at hb2
   ·cases hb2
   ·rename_i hc
    have hne : b2 ≠ b := fun e => hc (by rw [e]; simpa using hb)
    exact absurd he (hs.heap.inj b2 b y2 y l2 l hne hb2 hy hl2 hl)
 refine ⟨_, φ', (frz_froze hHf).1, hf.fr, hs.size, ?_, hf.heap⟩
 have := hs.df
 rw [hdf] at this
 have hnil := this.eq_nil
 rw [hnil]
 exact DfRel.nil _ _ _ _
theorem Ent.refl (σ : St) : Ent σ σ := fun P base w0 Z φ N a w hs => ⟨Z, φ, ZLe.refl _, hs⟩
section
variable {P : Program} {N : Nat}
theorem swp_ent {c : Code} {Q : AX -> St -> Prop} {σ σ' : St} (h : Ent σ σ') (hq : SWp P N 0 c Q σ') : SWp P N 0 c Q σ := by
 intro ro base w0 Z φ a w hro hs
 obtain ⟨Z', φ', hZ, hs'⟩ := h P base w0 Z φ N a w hs
 exact wpIn_mono (hq ro base w0 Z' φ' a w hro hs') fun e a w hl => hl.mono hZ (fun b x hb => by omega) fun _ _ h => h
def AX.calm : AX -> Bool
 | .panic _ => false
 | _ => true
theorem swp_exits {c : Code} {Q Q' : AX -> St -> Prop} {σ : St} (h : SWp P N 0 c Q' σ) (hq : ∀ e τ, Q' e τ -> e.calm = true /\ ∃ τ', Ent τ τ' /\ Q e τ') : SWp P N 0 c Q σ := by
 intro ro base w0 Z φ a w hro hs
 refine wpIn_mono (h ro base w0 Z φ a w hro hs) fun e a w hl => ?_
 obtain ⟨Z1, φ1, x, τ, h1, h2, h3, h4, h5⟩ := hl
 obtain ⟨hc, τ', hE, hQ⟩ := hq x τ h5
 obtain ⟨Z2, φ2, hZ, hs'⟩ := hE P base w0 Z1 φ1 N a w h4
 refine ⟨Z2, φ2, x, τ', h1.trans hZ, fun b x hb => by omega, ?_, hs', hQ⟩
 cases x with
 | panic v => cases hc
 | normal => cases e <;> exact h3
 | exit i => cases e <;> exact h3
 | ret => cases e <;> exact h3
end
def backK (s : Shape) (K : shDen s -> Prop) : St -> Prop := fun σ =>
 match exSt s σ with
 | some (x, ps) => allP ps (K x)
 | none => False
theorem backK_ok {s : Shape} {K : shDen s -> Prop} {σ : St} (h : backK s K σ) : ∃ x, Ent σ (shSt s x) /\ K x := by
 unfold backK at h
 split at h
 ·rename_i x ps he
  rw [allP_iff] at h
  exact ⟨x, exSt_ok he h.1, h.2⟩
 ·exact h.elim
def exitK (ex : AX -> Option Shape) (Q : AX -> St -> Prop) : AX -> St -> Prop := fun e σ =>
 match e.calm with
 | true => match ex e with
  | some s => backK s (fun x => Q e (shSt s x)) σ
  | none => False
 | false => False
theorem exitK_ok {ex : AX -> Option Shape} {Q : AX -> St -> Prop} {e : AX} {σ : St} (h : exitK ex Q e σ) : e.calm = true /\ ∃ τ, Ent σ τ /\ Q e τ := by
 unfold exitK at h
 split at h
 ·rename_i hc
  split at h
  ·rename_i s hs
   obtain ⟨x, h1, h2⟩ := backK_ok h
   exact ⟨hc, _, h1, h2⟩
  ·exact h.elim
 ·exact h.elim
structure LC where
 sh : Shape
 spec : shDen sh -> (AX -> St -> Prop) -> Prop
structure FC where
 as : List AT
 rs : List Ty
 spec : Spec as rs
def LpOk (P : Program) (k : FuncId) (j : Nat) (c : LC) : Prop := ∀ fn fb code, P.funcs[k]? = some fn -> fn.body = some fb -> (loopsOf fb)[j]? = some code -> ∀ x Q, c.spec x Q -> SWp P fn.ntmps 0 (.loop code) Q (shSt c.sh x)
def FnOk (P : Program) (k : FuncId) (c : FC) : Prop := PCok P k c.as c.rs c.spec
def hasF : List (Nat × FC) -> Nat -> Bool
 | [], _ => false
 | (k, _) :: l, i => match Nat.beq i k with
  | true => true
  | false => hasF l i
def tryF : List (Nat × FC) -> Nat -> List AV -> Heap -> Nat -> (AE -> Heap -> Nat -> Prop) -> Prop
 | [], _, _, _, _, _ => False
 | (k, c) :: l, i, avs, H, nx, R => match Nat.beq i k with
  | true => pcD c.as c.rs c.spec avs H nx R (tryF l i avs H nx R)
  | false => tryF l i avs H nx R
def tryL : List (Nat × Nat × LC) -> Nat -> Nat -> St -> (AX -> St -> Prop) -> Prop
 | [], _, _, _, _ => False
 | (k, j, c) :: l, i, n, σ, K => match Nat.beq i k && Nat.beq n j with
  | true => match exSt c.sh σ with
   | some (x, ps) => allP ps (c.spec x K)
   | none => tryL l i n σ K
  | false => tryL l i n σ K
def mkTab (fs : List (Nat × FC)) (ls : List (Nat × Nat × LC)) : Tab where
 fn k := match hasF fs k with
  | true => some (tryF fs k)
  | false => none
 lp k n0 j σ K := match n0 with
  | 0 => tryL ls k j σ K
  | _ + 1 => False
structure Good (P : Program) (fs : List (Nat × FC)) (ls : List (Nat × Nat × LC)) : Prop where
 fn : ∀ k avs H nx R, tryF fs k avs H nx R -> SCall P k avs H nx R
 lp : ∀ k j σ K, tryL ls k j σ K -> ∃ c, LpOk P k j c /\ backK c.sh (fun x => c.spec x K) σ
theorem good_nil (P : Program) : Good P [] [] := ⟨fun k avs H nx R h => h.elim, fun k j σ K h => h.elim⟩
theorem Good.addF {P : Program} {fs : List (Nat × FC)} {ls : List (Nat × Nat × LC)} (h : Good P fs ls) {k : Nat} {c : FC} (hc : FnOk P k c) : Good P ((k, c) :: fs) ls := by
 refine ⟨fun i avs H nx R hd => ?_, h.lp⟩
 unfold tryF at hd
 split at hd
 ·rename_i e
  rw [Nat.eq_of_beq_eq_true e] at hd ⊢
  exact pcD_ok hc hd fun ho => h.fn k avs H nx R ho
 ·exact h.fn i avs H nx R hd
theorem Good.addL {P : Program} {fs : List (Nat × FC)} {ls : List (Nat × Nat × LC)} (h : Good P fs ls) {k j : Nat} {c : LC} (hc : LpOk P k j c) : Good P fs ((k, j, c) :: ls) := by
 refine ⟨h.fn, fun i n σ K hd => ?_⟩
 unfold tryL at hd
 split at hd
 ·rename_i e
  rw [Bool.and_eq_true] at e
  split at hd
  ·rename_i x ps he
   refine ⟨c, ?_, ?_⟩
   ·rw [Nat.eq_of_beq_eq_true e.1, Nat.eq_of_beq_eq_true e.2]; exact hc
   ·unfold backK; rw [he]; exact hd
  ·exact h.lp i n σ K hd
 ·exact h.lp i n σ K hd
theorem Good.tab {P : Program} {fs : List (Nat × FC)} {ls : List (Nat × Nat × LC)} (h : Good P fs ls) : TabOk P (mkTab fs ls) := by
 refine ⟨fun k c hc avs H nx R hx => ?_, fun k fn fb hf hb n0 i code hcode σ Q hq => ?_⟩
 ·simp only [mkTab] at hc
  split at hc
  ·injection hc with hc; subst hc
   exact h.fn k avs H nx R hx
  ·cases hc
 ·rw [Nat.zero_add] at hq
  simp only [mkTab] at hq
  split at hq
  ·obtain ⟨c, hc, hk⟩ := h.lp k i σ Q hq
   obtain ⟨x, h1, h2⟩ := backK_ok hk
   exact swp_ent h1 (hc fn fb code hf hb hcode x Q h2)
  ·exact hq.elim
def xloop (P : Program) (fs : List (Nat × FC)) (ls : List (Nat × Nat × LC)) (n : Nat) (k j : Nat) (c : LC) (ex : AX -> Option Shape) (m : shDen c.sh -> Nat) (x : shDen c.sh) (Q : AX -> St -> Prop) : Prop :=
 match P.funcs[k]? with
 | none => False
 | some fn => match fn.body with
  | none => False
  | some fb => match (loopsOf fb)[j]? with
   | none => False
   | some code => xc P fn.ntmps (xcall P (mkTab fs ls) n) ((mkTab fs ls).lp k 0) code (j + 1) (AX.then (backK c.sh fun x' => m x' < m x /\ c.spec x' Q) (exitK ex Q)) (shSt c.sh x)
theorem lp_of {P : Program} {fs : List (Nat × FC)} {ls : List (Nat × Nat × LC)} (hT : Good P fs ls) {n k j : Nat} {c : LC} {ex : AX -> Option Shape} {m : shDen c.sh -> Nat} (h : ∀ x Q, c.spec x Q -> xloop P fs ls n k j c ex m x Q) : LpOk P k j c := by
 intro fn fb code hf hb hcode x Q hx
 have key : ∀ x, c.spec x Q -> xc P fn.ntmps (xcall P (mkTab fs ls) n) ((mkTab fs ls).lp k 0) code (j + 1) (AX.then (backK c.sh fun x' => m x' < m x /\ c.spec x' Q) (exitK ex Q)) (shSt c.sh x) := fun x hx => by
  have := h x Q hx
  unfold xloop at this
  simp only [hf, hb, hcode] at this
  exact this
 have hcall := xcall_ok hT.tab n
 have hloops : LoopsOk P fn.ntmps 0 ((mkTab fs ls).lp k 0) (j + 1) (loopsOf code) := fun i d hd σ Q hq => hT.tab.lp k fn fb hf hb 0 (j + 1 + i) d (loops_in fb j code hcode i d hd) σ Q (by rw [Nat.zero_add]; exact hq)
 refine swp_exits (Q' := fun e τ => e.calm = true /\ ∃ τ', Ent τ τ' /\ Q e τ') ?_ fun e τ h => h
 refine swp_loop (fun n σ => ∃ x, Ent σ (shSt c.sh x) /\ c.spec x Q /\ m x = n) ⟨x, Ent.refl _, hx, rfl⟩ fun n' σ ⟨y, h1, h2, h3⟩ => ?_
 refine swp_ent h1 ((xc_ok hcall code (j + 1) _ _ hloops (key y h2)).mono fun e τ he => ?_)
 cases e with
 | normal =>
  obtain ⟨z, g1, g2, g3⟩ := backK_ok he
  exact ⟨m z, by rw [<- h3]; exact g2, z, g1, g3, rfl⟩
 | exit i => exact exitK_ok (ex := ex) he
 | ret => exact exitK_ok (ex := ex) he
 | panic v => exact exitK_ok (ex := ex) he
def xfn (P : Program) (fs : List (Nat × FC)) (ls : List (Nat × Nat × LC)) (n : Nat) (k : Nat) (c : FC) (x : densA c.as) (K : dens c.rs -> Prop) : Prop :=
 xinl P (xcall P (mkTab fs ls) n) (mkTab fs ls).lp k (valsA c.as x) [] 0 (resK c.rs K)
theorem fn_of {P : Program} {fs : List (Nat × FC)} {ls : List (Nat × Nat × LC)} (hT : Good P fs ls) {n k : Nat} {c : FC} (h : ∀ x K, c.spec x K -> xfn P fs ls n k c x K) : FnOk P k c :=
 pc_of (xcall_ok hT.tab n) (fun fn fb hf hb => hT.tab.lp k fn fb hf hb) fun x K hx => by have := h x K hx; unfold xfn at this; exact this
attribute [irreducible] xloop xfn
end Go.Lom

/- From what a row is given to contents, and back: plain lemmas. No conditions of its own. -/
namespace Go.Lom
open Go.RowKit Go.WideShapes Go.ChangeShapes
def Ty.rng : (t : Ty) -> t.den -> Prop
 | .i k, n => inR k n = true
 | .b, _ => True
 | .s, x => x.length <= maxLen
 | .sl t, xs => xs.length <= maxLen /\ ∀ x ∈ xs, t.rng x
 | .pr x y, p => x.rng p.1 /\ y.rng p.2
 | .ar n t, xs => xs.length = n /\ ∀ x ∈ xs, t.rng x
 | .mp κ ν, l => ∀ p ∈ l, κ.rng p.1 /\ ν.rng p.2
 | .so t, xs => ∀ x ∈ xs, t.rng x
def fitFs (P : Program) (r : Ty -> TypeId -> Bool) : Ty -> List Field -> Nat -> Bool
 | τ, [f], o => f.offset == o && P.cellsOf f.type == τ.sz && r τ f.type
 | .pr x y, f :: g :: fs, o => f.offset == o && P.cellsOf f.type == x.sz && r x f.type && fitFs P r y (g :: fs) (o + x.sz)
 | _, _, _ => false
def arrFs (P : Program) (n : Nat) (e : TypeId) : List Field := (List.range n).map fun i => { (default : Field) with type := e, offset := i * P.cellsOf e }
def fitTy (P : Program) : Nat -> Ty -> TypeId -> Bool
 | 0, _, _ => false
 | d + 1, τ, t => match P.underlying t with
  | some (.int k) => (match τ with | .i k' => decide (k = k') | _ => false)
  | some .bool => (match τ with | .b => true | _ => false)
  | some .string => (match τ with | .s => true | _ => false)
  | some (.slice e) => (match τ with | .sl τ' => P.cellsOf e == τ'.sz && Nat.blt 0 τ'.sz && fitTy P d τ' e | _ => false)
  | some (.struct fs) => P.cellsOf t == τ.sz && fitFs P (fitTy P d) τ fs.toList 0
  | some (.array n e) => P.cellsOf t == τ.sz && fitFs P (fitTy P d) τ (arrFs P n e) 0
  | _ => false
section
variable {H : Type} {enc : TypeId × Value -> H} {P : Program} {W : World}
def CellsR (W : World) (cs : List Value) (τ : Ty) (y : τ.den) : Prop :=
 cs.length = τ.sz /\ ∀ (j : Nat) (v : AV) (u : Value), (τ.enc y)[j]? = some v -> cs[j]? = some u -> Rep (zAll W) noMap v u
theorem cells_get {w : World} {a : Addr} {n : Nat} {cs : List Value} (h : w.cells? 0 a n = some cs) : cs.length = n /\ ∀ (i : Nat) (u : Value), cs[i]? = some u -> w.cell? (a.add i) = some u := by
 unfold World.cells? at h
 rw [if_pos (Nat.zero_le _)] at h
 refine ⟨by have := mapM_some_length h; simpa using this, fun i u hu => ?_⟩
 have hlt : i < cs.length := (List.getElem?_eq_some_iff.1 hu).1
 have hl : cs.length = n := by have := mapM_some_length h; simpa using this
 have := mapM_some_get h i i (by rw [List.getElem?_range (by omega)])
 rw [this, hu]
theorem fits_fields {r : Ty -> TypeId -> Bool} {n : Nat} (hr : ∀ (τ : Ty) (t : TypeId) (cs : List Value) (x : DataW H × List MemPlace), r τ t = true -> DataW.trod enc P W 0 (fun _ => true) true n t cs = some x -> ∃ y : τ.den, CellsR W cs τ y /\ τ.rng y) {cs : List Value} :
  ∀ (fs : List Field) (τ : Ty) (o : Nat), fitFs P r τ fs o = true -> o + τ.sz <= cs.length -> (∀ f ∈ fs, ∃ x, DataW.trod enc P W 0 (fun _ => true) true n f.type ((cs.drop f.offset).take (P.cellsOf f.type)) = some x) ->
  ∃ y : τ.den, CellsR W ((cs.drop o).take τ.sz) τ y /\ τ.rng y
 | [], τ, o, h, _, _ => by unfold fitFs at h; cases τ <;> cases h
 | [f], τ, o, h, hle, hx => by
  have h : (f.offset == o && P.cellsOf f.type == τ.sz && r τ f.type) = true := by unfold fitFs at h; cases τ <;> exact h
  simp only [Bool.and_eq_true, beq_iff_eq] at h
  obtain ⟨⟨h1, h2⟩, h3⟩ := h
  obtain ⟨x, hx⟩ := hx f (List.mem_singleton.2 rfl)
  rw [h1, h2] at hx
  exact hr τ f.type _ x h3 hx
 | f :: g :: fs, τ, o, h, hle, hx => by
  cases τ with
  | pr a b =>
   have h : (f.offset == o && P.cellsOf f.type == a.sz && r a f.type && fitFs P r b (g :: fs) (o + a.sz)) = true := by unfold fitFs at h; exact h
   simp only [Bool.and_eq_true, beq_iff_eq] at h
   obtain ⟨⟨⟨h1, h2⟩, h3⟩, h4⟩ := h
   simp only [Ty.sz] at hle
   obtain ⟨x, hxf⟩ := hx f (List.mem_cons_self ..)
   rw [h1, h2] at hxf
   obtain ⟨y1, c1, r1⟩ := hr a f.type _ x h3 hxf
   obtain ⟨y2, c2, r2⟩ := fits_fields hr (g :: fs) b (o + a.sz) h4 (by omega) fun k hk => hx k (List.mem_cons_of_mem _ hk)
   refine ⟨(y1, y2), ⟨by simp [Ty.sz]; omega, fun j v u hv hu => ?_⟩, r1, r2⟩
   have hu' : cs[o + j]? = some u /\ j < a.sz + b.sz := by
    simp only [Ty.sz] at hu
    rw [List.getElem?_take] at hu
    split at hu
    ·rename_i hj; rw [List.getElem?_drop] at hu; exact ⟨hu, hj⟩
    ·cases hu
   simp only [Ty.enc] at hv
   by_cases hj : j < (a.enc y1).length
   ·rw [List.getElem?_append_left hj] at hv
    rw [Ty.enc_length] at hj
    exact c1.2 j v u hv (by rw [List.getElem?_take, if_pos hj, List.getElem?_drop]; exact hu'.1)
   ·rw [List.getElem?_append_right (by omega), Ty.enc_length] at hv
    rw [Ty.enc_length] at hj
    refine c2.2 (j - a.sz) v u hv ?_
    rw [List.getElem?_take, if_pos (by omega), List.getElem?_drop, <- hu'.1]
    congr 1; omega
  | _ => unfold fitFs at h; cases h
theorem choose_list {α : Type} {n : Nat} {p : Nat -> α -> Prop} (h : ∀ i, i < n -> ∃ y, p i y) : ∃ ys : List α, ys.length = n /\ ∀ (i : Nat) (y : α), ys[i]? = some y -> p i y := by
 induction n with
 | zero => exact ⟨[], rfl, fun i y hi => by simp at hi⟩
 | succ n ih =>
  obtain ⟨ys, h1, h2⟩ := ih fun i hi => h i (by omega)
  obtain ⟨y, hy⟩ := h n (by omega)
  refine ⟨ys ++ [y], by simp [h1], fun i z hz => ?_⟩
  by_cases hi : i < ys.length
  ·rw [List.getElem?_append_left hi] at hz; exact h2 i z hz
  ·rw [List.getElem?_append_right (by omega)] at hz
   have : i - ys.length = 0 := by
    by_cases h0 : i - ys.length = 0
    ·exact h0
    ·rw [List.getElem?_eq_none (by simp; omega)] at hz; cases hz
   rw [this] at hz
   injection hz with hz; subst hz
   have : i = n := by omega
   rw [this]; exact hy
theorem trod_cells : ∀ (d n : Nat) (τ : Ty) (t : TypeId) (cs : List Value) (x : DataW H × List MemPlace), fitTy P d τ t = true -> DataW.trod enc P W 0 (fun _ => true) true n t cs = some x -> ∃ y : τ.den, CellsR W cs τ y /\ τ.rng y
 | 0, n, τ, t, cs, x, h, _ => by simp [fitTy] at h
 | d + 1, n, τ, t, cs, x, h, hx => by
  unfold fitTy at h
  split at h
  ·rename_i k hu
   split at h
   ·rename_i k'
    have hk := of_decide_eq_true h
    subst hk
    obtain ⟨m, rfl, rfl, hw⟩ := DataW.trod_int hu hx
    refine ⟨m, ⟨rfl, fun j v u hv hu => ?_⟩, ?_⟩
    ·cases j <;> simp [Ty.enc] at hv hu
     subst hv hu; exact .int _ _
    ·show inR k m = true
     simp only [Lit.wf, Bool.and_eq_true, decide_eq_true_eq] at hw
     rw [inR_iff]
     cases k <;> simp [IntKind.min, IntKind.max, IntKind.signed, IntKind.bits, loK, hiK] at hw ⊢ <;> omega
   ·cases h
  ·rename_i hu
   split at h
   ·obtain ⟨b, rfl, rfl⟩ := DataW.trod_bool hu hx
    refine ⟨b, ⟨rfl, fun j v u hv hu => ?_⟩, trivial⟩
    cases j <;> simp [Ty.enc] at hv hu
    subst hv hu; exact .bool _
   ·cases h
  ·rename_i hu
   split at h
   ·obtain ⟨s, rfl, hs⟩ := DataW.trod_string hu hx
    refine ⟨s.data.toList, ⟨rfl, fun j v u hv hu => ?_⟩, ?_⟩
    ·cases j <;> simp [Ty.enc] at hv hu
     subst hv hu
     exact .str _
    ·show s.data.toList.length <= maxLen
     rw [Array.length_toList]; exact hs.2
   ·cases h
  ·rename_i e hu
   split at h
   ·rename_i τ'
    simp only [Bool.and_eq_true, beq_iff_eq] at h
    obtain ⟨⟨h1, h2⟩, h3⟩ := h
    have h2 : 0 < τ'.sz := Nat.le_of_ble_eq_true h2
    rcases DataW.trod_slice hu hx with ⟨rfl, _⟩ | ⟨a, len, cap, elems, rest, m, rfl, rfl, _, _, hlc, hcm, hel, hget, _, _⟩
    ·refine ⟨[], ⟨rfl, fun j v u hv hu => ?_⟩, Nat.zero_le _, fun x hx => by simp at hx⟩
     cases j <;> simp [Ty.enc] at hv hu
     subst hv hu; exact Rep.toRl .rs0
    ·rw [h1] at hget
     have each : ∀ i, i < len -> ∃ y : τ'.den, (∃ ci, W.cells? 0 (a.add (i * τ'.sz)) τ'.sz = some ci /\ CellsR W ci τ' y) /\ τ'.rng y := by
      intro i hi
      have hg := hget i hi
      rw [List.getElem?_eq_getElem (show i < elems.length by omega)] at hg
      obtain ⟨ci, hci, htr⟩ := Option.bind_eq_some_iff.1 hg
      obtain ⟨y, hy, hyr⟩ := trod_cells d m τ' e ci _ h3 htr
      exact ⟨y, ⟨ci, hci, hy⟩, hyr⟩
     obtain ⟨ys, hyl, hys⟩ := choose_list each
     refine ⟨ys, ⟨rfl, fun j v u hv hu => ?_⟩, by rw [hyl]; omega, fun x hx => ?_⟩
     ·cases j <;> simp [Ty.enc] at hv hu
      subst hv hu
      apply Rep.toRl
      by_cases hl0 : len = 0
      ·subst hl0
       have : ys = [] := List.eq_nil_of_length_eq_zero hyl
       subst this
       exact rep_rs_nil a cap
      ·have cell : ∀ (i : Nat) (ei : List AV) (j : Nat) (v : AV), (ys.map τ'.enc)[i]? = some ei -> ei[j]? = some v -> ∃ u, W.cell? (a.add (i * τ'.sz) |>.add j) = some u /\ Rep (zAll W) noMap v u := by
        intro i ei j v hi hj
        rw [List.getElem?_map] at hi
        cases hy : ys[i]? with
        | none => rw [hy] at hi; cases hi
        | some y =>
         rw [hy] at hi
         simp only [Option.map_some, Option.some.injEq] at hi
         subst hi
         obtain ⟨⟨ci, hci, hcr⟩, _⟩ := hys i y hy
         obtain ⟨g1, g2⟩ := cells_get hci
         have hjl : j < ci.length := by rw [hcr.1, <- τ'.enc_length y]; exact (List.getElem?_eq_some_iff.1 hj).1
         exact ⟨_, g2 j _ (List.getElem?_eq_getElem hjl), hcr.2 j v _ hj (List.getElem?_eq_getElem hjl)⟩
       have hspot : a.spot = none := by
        have h0 : (ys.map τ'.enc)[0]? = some (τ'.enc ys[0]) := by rw [List.getElem?_map, List.getElem?_eq_getElem (by omega)]; rfl
        have hj0 : 0 < (τ'.enc ys[0]).length := by rw [τ'.enc_length]; exact h2
        obtain ⟨u, hu, _⟩ := cell 0 _ 0 _ h0 (List.getElem?_eq_getElem hj0)
        simp only [Nat.zero_mul, Addr.add, if_pos] at hu
        cases hsp : a.spot with
        | none => rfl
        | some q =>
         unfold World.cell? at hu
         split at hu
         ·rw [hsp] at hu; simp at hu
         ·cases hu
       have ha : a = ⟨a.block, a.off, none⟩ := by cases a; simp only at hspot; subst hspot; rfl
       refine .rs (B := a.block) (off := a.off) (s := τ'.sz) (fun i j => (W.cell? ⟨a.block, a.off + i * τ'.sz + j, none⟩).getD Go.undef) (by simp [hyl]) hlc (.inl ha) (fun i ei hi => ?_) (fun i ei j v hi hj => ?_) fun i ei j v hi hj => ?_
       ·rw [List.getElem?_map] at hi
        cases hy : ys[i]? with
        | none => rw [hy] at hi; cases hi
        | some y => rw [hy] at hi; injection hi with hi; subst hi; exact ⟨τ'.enc_length y, τ'.enc_oneC y⟩
       all_goals
        obtain ⟨u, hu, hr⟩ := cell i ei j v hi hj
        rw [ha, add_none, add_none] at hu
       ·rw [hu]
        unfold World.cell? at hu
        unfold zcell zAll
        simp only at hu
        split at hu
        ·rename_i c T fz hc
         rw [hc]
         simpa using hu
        ·cases hu
       ·rw [hu]; exact hr
     ·obtain ⟨i, hi, hxi⟩ := List.mem_iff_getElem.1 hx
      exact (hys i x (by rw [List.getElem?_eq_getElem hi, hxi])).2
   ·cases h
  ·rename_i fs hu
   simp only [Bool.and_eq_true, beq_iff_eq] at h
   obtain ⟨xs, m, rfl, _, hl, hxl, hf⟩ := DataW.trod_struct hu hx
   have := fits_fields (cs := cs) (fun τ t cs x => trod_cells d m τ t cs x) fs.toList τ 0 h.2 (by omega) fun f hf' => by
    obtain ⟨i, hi, hfi⟩ := List.mem_iff_getElem.1 hf'
    have hi' : i < xs.length := by simp at hi; omega
    refine ⟨xs[i], ?_⟩
    rw [hf i f (by simp at hi; rw [Array.getElem?_eq_getElem hi, <- hfi]; simp), List.getElem?_eq_getElem hi']
   rw [List.drop_zero, List.take_of_length_le (by omega)] at this
   exact this
  ·rename_i k e hu
   simp only [Bool.and_eq_true, beq_iff_eq] at h
   obtain ⟨xs, m, rfl, _, hl, hxl, hf⟩ := DataW.trod_array hu hx
   have := fits_fields (cs := cs) (fun τ t cs x => trod_cells d m τ t cs x) (arrFs P k e) τ 0 h.2 (by omega) fun f hf' => by
    obtain ⟨i, hi, rfl⟩ := List.mem_map.1 hf'
    have hi : i < k := List.mem_range.1 hi
    refine ⟨xs[i], ?_⟩
    have := hf i hi
    rw [List.getElem?_eq_getElem (by omega : i < xs.length)] at this
    exact this
   rw [List.drop_zero, List.take_of_length_le (by omega)] at this
   exact this
  ·cases h
def rngs : (ts : List Ty) -> dens ts -> Prop
 | [], _ => True
 | t :: ts, x => t.rng x.1 /\ rngs ts x.2
def fitTop (P : Program) (d : Nat) (τ : Ty) (t : TypeId) : Bool :=
 fitTy P d τ t && (match τ with
  | .pr _ _ => true
  | _ => match P.underlying t with
   | some (.struct _) => false
   | some (.array _ _) => false
   | _ => true)
def fitAll (P : Program) (d : Nat) : List Ty -> List TypeId -> Bool
 | [], [] => true
 | τ :: τs, t :: ts => fitTop P d τ t && fitAll P d τs ts
 | _, _ => false
theorem trod_val {d : Nat} {τ : Ty} {t : TypeId} {v : Value} {x : DataW H} {ps : List MemPlace} (h : fitTop P d τ t = true) (hT : DataW.Trod enc P W 0 (fun _ => true) true t v x ps) (hok : Value.okWide P W .any 0 t v) :
  ∃ y : τ.den, Rep (zAll W) noMap (τ.val y) v /\ τ.rng y := by
 unfold fitTop at h
 rw [Bool.and_eq_true] at h
 obtain ⟨n, hn⟩ := hT
 obtain ⟨y, ⟨hl, hc⟩, hr⟩ := trod_cells d n τ t _ _ h.1 hn
 refine ⟨y, ?_, hr⟩
 have hnot : (match P.underlying t with
   | some (.struct _) => false
   | some (.array _ _) => false
   | _ => true) = true -> ∀ cs, v ≠ .agg cs := by
  intro hu cs hv
  subst hv
  unfold Value.okWide at hok
  split at hok
  ·rename_i hs; rw [hs] at hu; cases hu
  ·rename_i hs; rw [hs] at hu; cases hu
  ·unfold Cell.okWide at hok
   split at hok <;> try (rename_i e; cases e; done)
   unfold Cell.ok at hok
   split at hok <;> first | (rename_i e; cases e; done) | exact hok
 have single : (∀ cs, v ≠ .agg cs) -> v.cells = #[v] := fun hne => by
  cases v <;> first | rfl | exact absurd rfl (hne _)
 have one : ∀ (a : AV), τ.enc y = [a] -> (∀ cs, v ≠ .agg cs) -> Rep (zAll W) noMap a v := fun a ha hne => hc 0 a v (by rw [ha]; rfl) (by rw [single hne]; rfl)
 cases τ with
 | i k => exact one _ rfl (hnot h.2)
 | b => exact one _ rfl (hnot h.2)
 | s => exact one _ rfl (hnot h.2)
 | sl t' => exact one _ rfl (hnot h.2)
 | mp κ ν => exact one _ rfl (hnot h.2)
 | so t => exact one _ rfl (hnot h.2)
 | ar n t' =>
  exfalso
  have h2 : (match P.underlying t with
   | some (.struct _) => false
   | some (.array _ _) => false
   | _ => true) = true := h.2
  cases d with
  | zero => simp [fitTy] at h
  | succ d =>
   have h1 := h.1
   unfold fitTy at h1
   split at h1 <;> first | (cases h1; done) | (rename_i hu; rw [hu] at h2; cases h2)
 | pr a b =>
  have hs : (∃ fs, P.underlying t = some (.struct fs)) \/ ∃ n e, P.underlying t = some (.array n e) := by
   cases d with
   | zero => simp [fitTy] at h
   | succ d =>
    have h1 := h.1
    unfold fitTy at h1
    split at h1
    ·cases h1
    ·cases h1
    ·cases h1
    ·cases h1
    ·rename_i fs hu; exact .inl ⟨fs, hu⟩
    ·rename_i n e hu; exact .inr ⟨n, e, hu⟩
    ·cases h1
  have hv : ∃ cs, v = .agg cs := by
   unfold Value.okWide at hok
   rcases hs with ⟨fs, hu⟩ | ⟨n, e, hu⟩
   ·rw [hu] at hok; obtain ⟨cs, rfl, _, _⟩ := hok; exact ⟨cs, rfl⟩
   ·rw [hu] at hok; obtain ⟨cs, rfl, _, _⟩ := hok; exact ⟨cs, rfl⟩
  obtain ⟨cs, rfl⟩ := hv
  have hl : cs.toList.length = (Ty.pr a b).sz := hl
  refine .agg (by rw [Ty.enc_length, <- hl, Array.length_toList]) fun i w u hw hu => hc i w u hw (by rw [<- hu]; exact Array.getElem?_toList)
theorem args_contents {d : Nat} : ∀ {τs : List Ty} {ts : List TypeId} {vs : List Value} {ds : List (DataW H)} {ps : List MemPlace}, fitAll P d τs ts = true -> DataW.TrodAll enc P W 0 (fun _ => true) true ts vs ds ps ->
  (∀ (j : Nat) t v, ts[j]? = some t -> vs[j]? = some v -> Value.okWide P W .any 0 t v) -> ∃ y : dens τs, Reps (zAll W) noMap (vals τs y) vs.toArray /\ rngs τs y
 | [], [], [], _, _, h, _, _ => ⟨(), ⟨rfl, fun i v u hv => by simp [vals] at hv⟩, trivial⟩
 | [], [], _ :: _, _, _, _, hT, _ => by simp [DataW.TrodAll] at hT
 | τ :: τs, t :: ts, [], _, _, _, hT, _ => by simp [DataW.TrodAll] at hT
 | τ :: τs, t :: ts, v :: vs, [], _, _, hT, _ => by simp [DataW.TrodAll] at hT
 | τ :: τs, t :: ts, v :: vs, x :: ds, ps, h, hT, hok => by
  simp only [fitAll, Bool.and_eq_true] at h
  obtain ⟨p, q, h1, h2, _⟩ := hT
  obtain ⟨y, hy, hry⟩ := trod_val h.1 h1 (hok 0 t v rfl rfl)
  obtain ⟨z, hz, hrz⟩ := args_contents (d := d) h.2 h2 fun j t' v' ht hv => hok (j + 1) t' v' (by simpa using ht) (by simpa using hv)
  refine ⟨(y, z), ?_, hry, hrz⟩
  have := reps_cons_mk hy hz
  rw [show (#[v] ++ vs.toArray : Array Value) = (v :: vs).toArray from by simp] at this
  exact this
 | [], t :: ts, _, _, _, h, _, _ => by simp [fitAll] at h
 | τ :: τs, [], _, _, _, h, _, _ => by simp [fitAll] at h
theorem trodAll_stays (hl : laidOutB P = true) {W' : World} (hb : Below W.heap.size W W') : ∀ {ts : List TypeId} {vs : List Value} {ds : List (DataW H)} {ps : List MemPlace}, (ts.all fun t => P.readableRec t && decide (t < P.types.size)) = true ->
  DataW.TrodAll enc P W 0 (fun _ => true) true ts vs ds ps -> (∀ x ∈ ps, x.block < W.heap.size) -> ∀ sp : Nat -> Bool, (∀ x ∈ ps, sp x.block = true) -> DataW.TrodAll enc P W' 0 sp true ts vs ds ps
 | [], [], [], ps, _, hT, _, _, _ => hT
 | [], _ :: _, _, _, _, hT, _, _, _ => by simp [DataW.TrodAll] at hT
 | [], [], _ :: _, _, _, hT, _, _, _ => by simp [DataW.TrodAll] at hT
 | _ :: _, [], _, _, _, hT, _, _, _ => by simp [DataW.TrodAll] at hT
 | _ :: _, _ :: _, [], _, _, hT, _, _, _ => by simp [DataW.TrodAll] at hT
 | t :: ts, v :: vs, x :: ds, ps, hr, hT, hlt, sp, hsp => by
  simp only [List.all_cons, Bool.and_eq_true, decide_eq_true_eq] at hr
  obtain ⟨p, q, h1, h2, rfl⟩ := hT
  exact ⟨p, q, WideElems.Trod_stays hl hr.1.1 hr.1.2 h1 (fun x hx => hb.same (hlt x (List.mem_append_left _ hx))) fun x hx => hsp x (List.mem_append_left _ hx),
   trodAll_stays hl hb (by simpa using hr.2) h2 (fun x hx => hlt x (List.mem_append_right _ hx)) sp fun x hx => hsp x (List.mem_append_right _ hx), rfl⟩
end
theorem law_of {P : Program} {k : FuncId} {τs : List Ty} {spec : Spec (τs.map .v) [.b]} (h : PCok P k (τs.map .v) [.b] spec) (hs : ∀ y : dens τs, rngs τs y -> ∃ x : densA (τs.map .v), valsA (τs.map .v) x = vals τs y /\ spec x fun r => r = (true, ())) {w : World} {us : Array Value} {y : dens τs}
  (hr : Reps (zAll w) noMap (vals τs y) us) (hy : rngs τs y) (gl : GlobOk (zAll w) := by exact globOk_none fun _ => rfl) : Calls P k us w fun e w' => e = .returned (.bool true) /\ Below w.heap.size w w' := by
 obtain ⟨x, hx, hsx⟩ := hs y hy
 have := h x _ hsx
 rw [hx] at this
 refine calls_true (this.mono fun e G m he => ?_) hr gl
 obtain ⟨_, _, r, rfl, rfl⟩ := he
 rfl
end Go.Lom

/- How long a list of a row is: the form's own reach. No conditions of its own. -/
namespace Go.Lom
open Go.RowKit Go.WideShapes Go.ChangeShapes
section
variable {H : Type} {enc : TypeId × Value -> H} {P : Program} {W : World}
end
end Go.Lom
