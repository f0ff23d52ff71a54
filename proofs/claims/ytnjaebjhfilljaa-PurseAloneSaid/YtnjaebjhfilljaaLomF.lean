/- Slices, composites, conversions, maps read: sound; and all quiet operations together. -/
import Derived.Test.YtnjaebjhfilljaaLomE
import Derived.Laws.BytesString
import Derived.ArgAppend
set_option linter.unusedSimpArgs false
namespace Go.Lom
open Go.RowKit

section
variable {P : Program} {base : Nat → Prop} {w0 : Start} {Z : ZMap} {φ : PMap} {H : Heap} {nx : Nat} {w : World}

/-- The elements of a slice lie in memory. -/
def SliceAt (Z : ZMap) (φ : PMap) (w : World) (a : Addr) (es : List (List AV)) : Prop :=
  es = [] ∨ ∃ B off s, a = ⟨B, off, none⟩ ∧ ∀ (i : Nat) (e : List AV), es[i]? = some e → e.length = s ∧ e.all oneC = true ∧ CellsAt Z φ w B (off + i * s) e

theorem HRel.elems (h : HRel base w0 Z φ H nx w) {x : AV} {u : Value} {es : List (List AV)} (hx : Rep Z φ x u) (he : elems H x = some es) :
    (u = .slice none 0 0 ∧ es = []) ∨ ∃ a c, u = .slice (some a) es.length c ∧ es.length ≤ c ∧ SliceAt Z φ w a es := by
  unfold Lom.elems at he
  cases hx with
  | nils => injection he with he; subst he; exact .inl ⟨rfl, rfl⟩
  | emp a => injection he with he; subst he; exact .inr ⟨a, 0, rfl, Nat.le_refl _, .inl rfl⟩
  | rs0 => injection he with he; subst he; exact .inl ⟨rfl, rfl⟩
  | rl hx =>
    rename_i τ ys
    injection he with he
    rw [he] at hx
    cases hx with
    | rs0 => exact .inl ⟨rfl, rfl⟩
    | rs us hn hc ha h0 h1 h2 =>
    subst hn
    refine .inr ⟨_, _, rfl, hc, ?_⟩
    rcases ha with rfl | hz
    · exact .inr ⟨_, _, _, rfl, fun i e hi => ⟨(h0 i e hi).1, (h0 i e hi).2, fun j v hj => ⟨us i j, h.zcellAt (h1 i e j v hi hj), h2 i e j v hi hj⟩⟩⟩
    · exact .inl (List.eq_nil_of_length_eq_zero hz)
  | sl0n hc =>
    simp only [Option.bind_eq_bind, Option.bind_eq_some_iff] at he
    obtain ⟨blk, hb, ⟨s2, fs⟩, hrow, he⟩ := he
    split at he
    · injection he with he; subst he; exact .inl ⟨rfl, by simp⟩
    · cases he
  | sl0s hc a =>
    simp only [Option.bind_eq_bind, Option.bind_eq_some_iff] at he
    obtain ⟨blk, hb, ⟨s2, fs⟩, hrow, he⟩ := he
    split at he
    · injection he with he
      have : es = [] := by rw [← he]; simp
      subst this
      exact .inr ⟨a, 0, rfl, Nat.le_refl _, .inl rfl⟩
    · cases he
  | rs us hn hc ha h0 h1 h2 =>
    injection he with he; subst he
    subst hn
    refine .inr ⟨_, _, rfl, hc, ?_⟩
    rcases ha with rfl | hz
    · exact .inr ⟨_, _, _, rfl, fun i e hi => ⟨(h0 i e hi).1, (h0 i e hi).2, fun j v hj => ⟨us i j, h.zcellAt (h1 i e j v hi hj), h2 i e j v hi hj⟩⟩⟩
    · exact .inl (List.eq_nil_of_length_eq_zero hz)
  | sl hf hls hc hl hm ha =>
    rename_i b s off len c l cap a
    simp only [Option.bind_eq_bind, Option.bind_eq_some_iff] at he
    obtain ⟨blk, hb, ⟨s2, fs⟩, hrow, he⟩ := he
    simp only at he
    split at he
    · rename_i hle
      have hle : off + len ≤ fs.length := hle
      have he : (fs.drop off).take len = es := by injection he
      subst he
      have hlen : ((fs.drop off).take len).length = len := by simp; omega
      rw [hlen]
      refine .inr ⟨a, c, rfl, hl, ?_⟩
      rcases ha with rfl | hz
      · refine .inr ⟨_, _, s, rfl, fun i e hi => ?_⟩
        have hi2 : i < len := by have := (List.getElem?_eq_some_iff.1 hi).1; omega
        rw [List.getElem?_take, if_pos hi2, List.getElem?_drop] at hi
        obtain ⟨e1, e2, e3, hca⟩ := h.cellsAt' hb hrow hi hf
        have e4 : s2 = s := by rw [← e1, hls]
        subst e4
        exact ⟨e2, e3, by rw [Nat.add_assoc, ← Nat.add_mul]; exact hca⟩
      · left
        have : len = 0 := by omega
        subst this; simp
    · cases he
  | _ => simp at he

theorem oneCell_of {v : AV} {u : Value} (h : Rep Z φ v u) (ho : oneC v = true) : u.oneCell' = true := by
  cases h <;> first | rfl | (simp [oneC] at ho; done)

/-- The cells of a slice's elements, one behind the other. -/
def Flat (Z : ZMap) (φ : PMap) (s : Nat) (es : List (List AV)) (us : List Value) : Prop :=
  us.length = es.length * s ∧ (∀ u ∈ us, u.oneCell' = true) ∧ ∀ (i : Nat) (e : List AV), es[i]? = some e → e.length = s ∧ ∀ (j : Nat) (v : AV), e[j]? = some v → ∃ u, us[i * s + j]? = some u ∧ Rep Z φ v u

theorem flat_nil (s : Nat) : Flat Z φ s [] [] := ⟨by simp, fun u hu => by simp at hu, fun i e h => by simp at h⟩

/-- Out of a slice in memory: the list of its cells, each where it lies. -/
theorem SliceAt.flat {a : Addr} {es : List (List AV)} (h : SliceAt Z φ w a es) {s : Nat} (hs : ∀ e ∈ es, e.length = s) :
    ∃ us, Flat Z φ s es us ∧ ∀ (j : Nat) (u : Value), us[j]? = some u → w.cell? (a.add j) = some u := by
  rcases h with rfl | ⟨B, off, s', rfl, h⟩
  · exact ⟨[], flat_nil s, fun j u hj => by simp at hj⟩
  · by_cases hne : es = []
    · subst hne; exact ⟨[], flat_nil s, fun j u hj => by simp at hj⟩
    have hss : s' = s := by
      cases es with
      | nil => exact absurd rfl hne
      | cons e es => rw [← (h 0 e rfl).1]; exact hs e (by simp)
    subst hss
    have hex : ∀ k, k < es.length * s' → ∃ u, w.cell? ⟨B, off + k, none⟩ = some u ∧ u.oneCell' = true ∧ ∀ e v, es[k / s']? = some e → e[k % s']? = some v → Rep Z φ v u := fun k hk => by
      have hs0 : 0 < s' := by
        rcases Nat.eq_zero_or_pos s' with h0 | h0
        · subst h0; omega
        · exact h0
      have hi : k / s' < es.length := Nat.div_lt_of_lt_mul (by rw [Nat.mul_comm]; exact hk)
      have hm : k % s' < s' := Nat.mod_lt _ hs0
      have he : es[k / s']? = some es[k / s'] := List.getElem?_eq_getElem hi
      obtain ⟨hl, hone, hc⟩ := h _ _ he
      have hj : (es[k / s'])[k % s']? = some ((es[k / s'])[k % s' ]'(by omega)) := List.getElem?_eq_getElem (by omega)
      obtain ⟨u, hu, hr⟩ := hc _ _ hj
      have e1 : off + k / s' * s' + k % s' = off + k := by have := Nat.div_add_mod k s'; rw [Nat.mul_comm] at this; omega
      rw [e1] at hu
      exact ⟨u, hu, oneCell_of hr (List.all_eq_true.1 hone _ (List.mem_of_getElem? hj)), fun e v h1 h2 => by rw [he] at h1; injection h1 with h1; subst h1; rw [hj] at h2; injection h2 with h2; subst h2; exact hr⟩
    have hF : ∃ f : Nat → Value, ∀ k, k < es.length * s' → w.cell? ⟨B, off + k, none⟩ = some (f k) ∧ (f k).oneCell' = true ∧ ∀ e v, es[k / s']? = some e → e[k % s']? = some v → Rep Z φ v (f k) :=
      ⟨fun k => if hk : k < es.length * s' then Classical.choose (hex k hk) else Go.undef, fun k hk => by simp only [hk, dif_pos]; exact Classical.choose_spec (hex k hk)⟩
    obtain ⟨f, hf⟩ := hF
    refine ⟨(List.range (es.length * s')).map f, ⟨by simp, fun u hu => ?_, fun i e hi => ⟨(h i e hi).1, fun j v hj => ?_⟩⟩, fun j u hj => ?_⟩
    · simp at hu; obtain ⟨k, hk, rfl⟩ := hu; exact (hf k hk).2.1
    · have hi' := (List.getElem?_eq_some_iff.1 hi).1
      have hj' : j < s' := by have := (List.getElem?_eq_some_iff.1 hj).1; have := (h i e hi).1; omega
      have hk : i * s' + j < es.length * s' := by
        have : (i + 1) * s' ≤ es.length * s' := Nat.mul_le_mul_right _ hi'
        rw [Nat.add_mul] at this; omega
      refine ⟨f (i * s' + j), by simp [hk], (hf _ hk).2.2 e v ?_ ?_⟩
      · rw [Nat.mul_comm, Nat.mul_add_div (by omega), Nat.div_eq_of_lt hj']; simpa using hi
      · rw [Nat.mul_comm, Nat.mul_add_mod, Nat.mod_eq_of_lt hj']; exact hj
    · have hj' : j < es.length * s' := by have := (List.getElem?_eq_some_iff.1 hj).1; simpa using this
      simp [hj'] at hj
      subst hj
      rw [add_none]
      exact (hf j hj').1

theorem mapM_bytes : ∀ (es : List (List AV)) (bs : List UInt8), es.mapM byteOf = some bs → ∃ ns : List Int, es = ns.map (fun n => [.int .u8 n]) ∧ bs = ns.map fun n => UInt8.ofNat n.toNat
  | [], bs, h => by simp at h; subst h; exact ⟨[], rfl, rfl⟩
  | e :: es, bs, h => by
    rw [List.mapM_cons] at h
    simp only [Option.bind_eq_bind, Option.bind_eq_some_iff, Option.pure_def, Option.some.injEq] at h
    obtain ⟨b, hb, bs', h1, h2⟩ := h
    obtain ⟨ns, rfl, rfl⟩ := mapM_bytes es bs' h1
    unfold byteOf at hb
    split at hb
    · rename_i n; injection hb with hb; subst hb
      exact ⟨n :: ns, rfl, h2.symm⟩
    · cases hb

theorem foldl_push (ns : List Int) (s : List UInt8) : ns.foldl (fun (r : ByteArray) n => r.push (UInt8.ofNat n.toNat)) ⟨s.toArray⟩ = ⟨(s ++ ns.map fun n => UInt8.ofNat n.toNat).toArray⟩ := by
  induction ns generalizing s with
  | nil => simp
  | cons n ns ih =>
    simp only [List.foldl_cons, List.map_cons]
    have : (⟨s.toArray⟩ : ByteArray).push (UInt8.ofNat n.toNat) = ⟨(s ++ [UInt8.ofNat n.toNat]).toArray⟩ := by
      apply ByteArray.ext; simp [ByteArray.push]
    rw [this, ih]; simp

theorem flat_ints {es : List (List AV)} {us : List Value} {ns : List Int} (h : Flat Z φ 1 es us) (he : es = ns.map fun n => [.int .u8 n]) : us = ns.map (Value.int .u8) := by
  subst he
  obtain ⟨h1, _, h2⟩ := h
  simp only [List.length_map, Nat.mul_one] at h1
  apply List.ext_getElem?
  intro i
  by_cases hi : i < ns.length
  · have := (h2 i [.int .u8 ns[i]] (by simp [hi])).2 0 (.int .u8 ns[i]) rfl
    obtain ⟨u, hu, hr⟩ := this
    cases hr
    simp only [Nat.mul_one, Nat.add_zero] at hu
    rw [hu]; simp [hi]
  · rw [List.getElem?_eq_none (by omega), List.getElem?_eq_none (by simp; omega)]

theorem sound_conv (h : HRel base w0 Z φ H nx w) {src dst : TypeId} {x r : AV} {u : Value} (hx : Rep Z φ x u) (hr : aconv P src dst x H = some r) :
    ∃ q, (convert src dst u).run P w = .ok q w ∧ Rep Z φ r q := by
  unfold aconv at hr
  split at hr
  · rename_i d1 k k2 n h1 h2
    cases hx; injection hr with hr; subst hr
    refine ⟨_, ?_, .int _ _⟩
    simp [convert, Sem.run_bind, run_underlying' h1, run_underlying' h2, Conv.intToInt, go_sem]
  · rename_i d1 s h1 h2
    cases hx; injection hr with hr; subst hr
    refine ⟨_, ?_, .str _⟩
    simp [convert, Sem.run_bind, run_underlying' h1, run_underlying' h2, go_sem]
  · rename_i g1 h1 h2 hns1
    split at hr
    · rename_i h3
      simp only [Option.bind_eq_bind, Option.bind_eq_some_iff, Option.some.injEq] at hr
      obtain ⟨es, hes, bs, hbs, rfl⟩ := hr
      obtain ⟨ns, hns, rfl⟩ := mapM_bytes es bs hbs
      refine ⟨_, ?_, .str _⟩
      have hc : ∀ (ao : Option Addr) (n c : Nat), u = .slice ao n c → (convert src dst u).run P w = (Conv.bytesToString u).run P w := by
        intro ao n c hu
        subst hu
        simp [convert, Sem.run_bind, run_underlying' h1, run_underlying' h2, run_underlying' h3, go_sem]
      rcases h.elems hx hes with ⟨rfl, rfl⟩ | ⟨a, c, rfl, _, hsl⟩
      · rw [hc _ _ _ rfl]
        have : ns = [] := by cases ns with | nil => rfl | cons => simp at hns
        subst this
        rfl
      · rw [hc _ _ _ rfl]
        obtain ⟨us, hfl, hcell⟩ := hsl.flat (s := 1) (fun e he => by subst hns; simp at he; obtain ⟨n, _, rfl⟩ := he; rfl)
        have hus := flat_ints hfl hns
        subst hus
        have hlen : (ns.map (Value.int .u8)).length = es.length := by subst hns; simp
        have hl := run_loadCells_list (P := P) w a (ns.map (Value.int .u8)) hcell
        rw [hlen] at hl
        rw [run_bytesToString w a _ c ns hl]
        have := foldl_push ns []
        simp only [List.nil_append] at this
        rw [← this]; rfl
    · cases hr
  · cases hr

theorem sound_mkIface {t : TypeId} {x r : AV} {u : Value} (hx : Rep Z φ x u) (hr : amkIface P t x = some r) : ∃ q, (Instr.makeInterface t u).run P w = .ok q w ∧ Rep Z φ r q := by
  unfold amkIface at hr
  split at hr
  · cases hr
  · cases hr
  · rename_i d h1 h2
    injection hr with hr; subst hr
    refine ⟨.iface t u, ?_, .iface hx⟩
    unfold Instr.makeInterface
    refine run_bind' (run_underlying' h2 w) ?_
    cases d <;> first | rfl | exact absurd rfl (h1 _)

theorem run_zeroValue {t : TypeId} {z : AV} (h : zeroOf P t = some z) (w : World) : ∃ u, (zeroValue t).run P w = .ok u w ∧ Rep Z φ z u := by
  unfold zeroOf at h
  simp only [Option.map_eq_some_iff, Option.bind_eq_some_iff] at h
  obtain ⟨v, ⟨i, hi, hz⟩, rfl⟩ := h
  refine ⟨v, ?_, rep_lift _ _ _⟩
  simp [zeroValue, typeInfo, hi, hz, go_sem]

theorem rep_pair {a b : AV} {u v : Value} (h1 : Rep Z φ a u) (h2 : Rep Z φ b v) : Rep Z φ (.tup [a, b]) (.tuple #[u, v]) := by
  refine .tup rfl fun i x y hx hy => ?_
  match i with
  | 0 => simp at hx hy; subst hx hy; exact h1
  | 1 => simp at hx hy; subst hx hy; exact h2
  | i + 2 => simp at hx

theorem sound_typeAssert {xt t : TypeId} {x r : AV} {u : Value} {ok : Bool} (hx : Rep Z φ x u) (hr : atypeAssert P x t ok = some r) :
    ∃ q, (Instr.typeAssert u xt t ok).run P w = .ok q w ∧ Rep Z φ r q := by
  unfold atypeAssert at hr
  have fails : ∀ d, P.underlying t = some d → (∀ ms, d ≠ .interface ms) → ∀ (st dy : Option TypeId), (if ok = true then (zeroOf P t).map fun z => AV.tup [z, .bool false] else none) = some r →
      ∃ q, ((if ok then do pure (Value.tuple #[← zeroValue t, .bool false]) else runtimePanic (.typeAssertion st dy t "")) : Sem Value).run P w = .ok q w ∧ Rep Z φ r q := by
    intro d hd hni st dy hh
    cases ok
    · simp at hh
    · simp only [if_true, Option.map_eq_some_iff] at hh
      obtain ⟨z, hz, rfl⟩ := hh
      obtain ⟨v, hv, hrep⟩ := run_zeroValue (Z := Z) (φ := φ) hz w
      exact ⟨.tuple #[v, .bool false], run_bind' hv rfl, rep_pair hrep (.bool _)⟩
  split at hr
  · cases hr
  · cases hr
  · rename_i d h1 h2
    cases hx
    obtain ⟨q, hq, hrep⟩ := fails d h2 (fun ms e => by subst e; exact h1 _ rfl) (some xt) none hr
    refine ⟨q, ?_, hrep⟩
    unfold Instr.typeAssert
    refine run_bind' (run_underlying' h2 w) ?_
    cases d <;> first | exact hq | exact absurd rfl (h1 _)
  · rename_i d t' v h1 h2
    cases hx with
    | iface hv =>
    rename_i uv
    split at hr
    · rename_i ht; subst ht
      injection hr with hr; subst hr
      refine ⟨if ok then .tuple #[uv, .bool true] else uv, ?_, by
        cases ok with
        | false => exact hv
        | true => exact rep_pair hv (.bool _)⟩
      unfold Instr.typeAssert
      refine run_bind' (run_underlying' h2 w) ?_
      cases d <;> first | (simp only [if_true]; rfl) | exact absurd rfl (h1 _)
    · rename_i hne
      obtain ⟨q, hq, hrep⟩ := fails d h2 (fun ms e => by subst e; exact h1 _ rfl) (some xt) (some t') hr
      refine ⟨q, ?_, hrep⟩
      unfold Instr.typeAssert
      refine run_bind' (run_underlying' h2 w) ?_
      cases d <;> first | (simp only [if_neg hne]; exact hq) | exact absurd rfl (h1 _)
  · cases hr

end
end Go.Lom
