/- Turns: all that can be reached: the code keeps its contracts. No conditions. -/
import Derived.Test.YtfbbpilflbpifaaEverL
set_option linter.constructorNameAsVariable false
set_option linter.unusedVariables false
set_option linter.unusedSimpArgs false
set_option maxRecDepth 100000
set_option maxHeartbeats 4000000
namespace Go.P10
open Go.Lom Go.Proofs Go
theorem h82L (r : Int) (xs os : List Int) (b : Bool) (l : List Int) (i : Int) (Q : LQ) (h0 : 0 ≤ i) (h1 : i ≤ l.length) (h2 : l.length ≤ 5) (h3 : boxL xs) (h4 : os.length = 5) (h5 : ∀ p ∈ l, p ≤ 100)
    (hQ : ∀ ys ok, (ys, ok) = goA r (l.drop i.toNat) i xs → (ok = true → Q (.exit 0) (stS 2 sh82e (ys, os, ()))) ∧ (ok = false → Q .ret (stS 2 sh82r (ys, false, ())))) :
    xloop2 Try.prog { nm := true } 5 82 0 lc82 ex82 (fun (_, _, _, _, l, _, i, _) => mL l i) (r, xs, os, b, l, (l.length : Int), i, ()) Q := by
  rw [v82L]
  simp only [fork_iff, req_iff, decide_eq_true_eq, decide_eq_false_iff_not, Nat.zero_add]
  refine ⟨fun hi => ?_, fun hi => ?_⟩
  rotate_left
  · rw [drop_end hi] at hQ
    exact (hQ xs true rfl).1 rfl
  have hn : i.toNat < xs.length := by have := h3.1; omega
  have hx := h3.2 _ (getD_mem hn 0)
  have hp5 := h5 _ (getD_mem (show i.toNat < l.length by omega) 0)
  rw [drop_step 0 h0 hi] at hQ
  simp only [goA] at hQ
  generalize hp : l.getD i.toNat 0 = p at *
  generalize hv : xs.getD i.toNat 0 = v at *
  have key : ∀ ys : List Int, ys = xs.set i.toNat (stepI v i r) → (stepI v i r ≥ p → (ys.length = 5) ∧ ys.length = 5 ∧ ys.length = os.length ∧ ∀ ys' : List Int, ys' = ys → Q .ret (stS 2 sh82r (ys', false, ()))) ∧
      (¬ stepI v i r ≥ p → inR .i64 (i + 1) = true ∧ mL l (i + 1) < mL l i ∧ ((0 : Int) ≤ i + 1 ∧ i + 1 ≤ (l.length : Int) ∧ True ∧ l.length ≤ 5 ∧ boxL ys ∧ os.length = 5 ∧ ∀ p ∈ l, p ≤ 100) ∧
        ∀ zs ok, (zs, ok) = goA r (l.drop (i + 1).toNat) (i + 1) ys → (ok = true → Q (.exit 0) (stS 2 sh82e (zs, os, ()))) ∧ (ok = false → Q .ret (stS 2 sh82r (zs, false, ())))) := by
    intro ys hys
    have hl : ys.length = 5 := by rw [hys, List.length_set]; exact h3.1
    refine ⟨fun hc => ⟨hl, hl, by omega, fun ys' hy => ?_⟩, fun hc => ⟨inR_i64.2 (by omega), mL_lt hi, ?_⟩⟩
    · rw [if_pos hc] at hQ
      subst hy
      exact (hQ ys' false (by rw [hys])).2 rfl
    · rw [if_neg hc] at hQ
      refine ⟨⟨show (0 : Int) ≤ i + 1 by omega, show i + 1 ≤ (l.length : Int) by omega, trivial, h2, ⟨hl, fun x hx' => ?_⟩, h4, h5⟩, fun zs ok he => hQ zs ok (by rw [← hys]; exact he)⟩
      rw [hys] at hx'
      rcases List.mem_or_eq_of_mem_set hx' with hx' | rfl
      · exact h3.2 x hx'
      · have hpb : stepI v i r < p := by omega
        unfold stepI at hpb ⊢
        split
        · omega
        · rename_i hne
          rw [if_neg hne] at hpb
          exact ⟨by omega, by omega⟩
  have hv1 : inR .i64 (v + 1) = true := inR_i64.2 (by omega)
  have hlen : ∀ ys w, ys = xs.set i.toNat w → ys.length = 5 ∧ ys.getD i.toNat 0 = w := fun ys w e => by
    subst e
    exact ⟨by rw [List.length_set]; exact h3.1, by rw [getD_set hn, if_pos rfl]⟩
  have hi5 : 0 ≤ i ∧ i < 5 := ⟨h0, by omega⟩
  refine ⟨⟨h0, hi⟩, hi5, hn, hv1, hi5, hn, fun ys hys => ?_⟩
  obtain ⟨e1, e2⟩ := hlen ys _ hys
  refine ⟨fun hir => ⟨hi5, by omega, fun ys1 hy1 => ?_⟩, fun hir => ⟨hi5, by omega, ?_⟩⟩
  · have hir : i = r := by simpa using hir
    have hst : stepI v i r = 0 := by unfold stepI; rw [if_pos hir]
    have hy2 : ys1 = xs.set i.toNat (stepI v i r) := by rw [hy1, hys, List.set_set, hst]
    obtain ⟨f1, f2⟩ := hlen ys1 _ hy2
    obtain ⟨k1, k2⟩ := key ys1 hy2
    rw [f2]
    exact ⟨hi5, by omega, k1, k2⟩
  · have hir : ¬ i = r := by simpa using hir
    have hst : stepI v i r = v + 1 := by unfold stepI; rw [if_neg hir]
    obtain ⟨k1, k2⟩ := key ys (by rw [hys, hst])
    rw [e2, ← hst]
    exact ⟨k1, k2⟩
theorem ok82L : Lp2Ok Try.prog 82 0 lc82 := lp2_of (n := 5) (ex := ex82) (m := fun (_, _, _, _, l, _, i, _) => mL l i) (good2_nilN _) fun (r, xs, os, b, l, m, i, ()) Q hx => by
  obtain ⟨⟨h0, h1, hm, h2, h3, h4, h5⟩, hQ⟩ := hx
  have hm : m = (l.length : Int) := hm
  subst hm
  exact h82L r xs os b l i Q h0 h1 h2 h3 h4 h5 hQ
theorem ok82 : F2Ok Try.prog 82 fc82 := fn2_of (n := 5) ((good2_nilN _).addL2 ok82L) fun (l, a, r, ()) K hx => by
  obtain ⟨⟨hp, hv, hr⟩, hK⟩ := hx
  have hr : (0 : Int) ≤ r := hr
  have hK : ∀ b ok, (nextR l a r.toNat = if ok = true then some b else none) → K ((), (), (), b, ok, ()) := hK
  rw [v82F]
  simp only [req_iff, decide_eq_true_eq]
  have hlen := (goA_spec r l 0 (ofA a) (by omega) (by rw [ofA_len]; have := hp.1.2; simpa using this)).1
  have er : ((r.toNat : Nat) : Int) = r := by omega
  have hx : nextR l a r.toNat = if (goA r l 0 (ofA a)).2 = true then some (toA (goA r l 0 (ofA a)).1) else none := by unfold nextR; rw [er]
  refine ⟨⟨Int.le_refl 0, show (0 : Int) ≤ (l.length : Int) by omega, trivial, hp.1.2, valid_box hp hv, trivial, fun (p : Int) h => show p ≤ (100 : Int) by have := hp.2 p h; omega⟩, fun ys ok he => ?_⟩
  have he : (ys, ok) = goA r l 0 (ofA a) := he
  rw [← he] at hlen hx
  have hlen : ys.length = 5 := hlen
  simp only at hx
  refine ⟨fun hok => ⟨hlen, hlen, hlen, fun ys1 hy => ?_⟩, fun hok => ⟨hlen, hlen, ?_⟩⟩
  · subst hy
    rw [hok] at hx
    exact ⟨hlen, hlen, hK _ true hx⟩
  · rw [hok] at hx
    exact hK _ false hx
theorem seg_app {α : Type} (b : List α) (x : α) {n : Nat} (h : n = b.length) : seg 0 (n + 1) (seg 0 b.length b ++ [x]) = b ++ [x] := by
  subst h
  rw [seg_self]
  exact seg_exact (by simp)
theorem h85R (ps : List Int) (nl : NL) (o q : List Ag) (i : Int) (a : Ag) (j : Int) (Q : LQ) (h0 : okPs ps) (h1 : validA ps a) (h2 : noKey (tmGet P5 nl a) = true) (h3 : 0 ≤ j) (h4 : j ≤ ps.length) (h5 : (o.length : Int) ≤ j) (h6 : (q.length : Int) ≤ 200000 + j)
    (hQ : ∀ (k' : Ag) (o' q' : List Ag), k' = a → o' = o ++ sucL ps a j.toNat → q' = q ++ sucL ps a j.toNat → Q (.exit 2) (stS 5 sh85re (ps, (nl, k', o'), q', i, ()))) :
    xloop2 Try.prog { nm := true, f2 := [(82, fc82)] } 5 85 1 lc85r (fun _ => some (sh85re, 5)) (fun (ps, _, _, _, _, _, j, _) => mL ps j) (ps, (nl, a, o), q, i, a, (ps.length : Int), j, ()) Q := by
  rw [v85R]
  have hp := h0.1
  refine fork_iff.2 ⟨fun hj => ?_, fun hj => ?_⟩
  · have hj : j < ps.length := of_decide_eq_true hj
    refine ⟨⟨h0, h1, h3⟩, fun b ok hb => ?_⟩
    have hs := sucL_step (ps := ps) (a := a) (r := j.toNat) (by omega)
    have e1 : j.toNat + 1 = (j + 1).toNat := by omega
    rw [hb, e1] at hs
    refine fork_iff.2 ⟨fun hok => ?_, fun hok => ?_⟩
    · subst hok
      simp only [if_true] at hs
      refine req_iff.2 ⟨eqA_iff.2 rfl, req_iff.2 ⟨h2, fun s => req_iff.2 ⟨by simp, req_iff.2 ⟨fitsM (by omega), fun ys hys => ?_⟩⟩⟩⟩
      refine req_iff.2 ⟨by simp, req_iff.2 ⟨by simp, req_iff.2 ⟨fitsM (by omega), fun zs hzs => ?_⟩⟩⟩
      have ey : seg 0 (o.length + 1) ys = o ++ [b] := by rw [hys]; exact seg_app o b rfl
      have ez : seg 0 (q.length + 1) zs = q ++ [b] := by rw [hzs]; exact seg_app q b rfl
      have ly : ys.length = o.length + 1 := by rw [hys, seg_self]; simp
      have lz : zs.length = q.length + 1 := by rw [hzs, seg_self]; simp
      refine req_iff.2 ⟨inR_i64.2 (by omega), req_iff.2 ⟨decide_eq_true (by omega), req_iff.2 ⟨decide_eq_true (by omega), mL_lt hj, ?_⟩⟩⟩
      rw [ey, ez]
      refine ⟨⟨h0, h1, rfl, h2, ⟨show (0 : Int) ≤ j + 1 by omega, show j + 1 ≤ (ps.length : Int) by omega⟩, rfl, ?_, ?_⟩, fun k' o' q' hk ho hq => hQ k' o' q' hk ?_ ?_⟩
      · show ((o ++ [b]).length : Int) ≤ j + 1
        simp only [List.length_append, List.length_singleton]; omega
      · show ((q ++ [b]).length : Int) ≤ 200000 + (j + 1)
        simp only [List.length_append, List.length_singleton]; omega
      · rw [ho, hs, List.append_assoc]
      · rw [hq, hs, List.append_assoc]
    · subst hok
      simp only [Bool.false_eq_true, if_false, List.nil_append] at hs
      refine req_iff.2 ⟨inR_i64.2 (by omega), req_iff.2 ⟨by simp, req_iff.2 ⟨by simp, mL_lt hj, ?_⟩⟩⟩
      rw [seg_self, seg_self]
      refine ⟨⟨h0, h1, rfl, h2, ⟨show (0 : Int) ≤ j + 1 by omega, show j + 1 ≤ (ps.length : Int) by omega⟩, rfl, show (o.length : Int) ≤ j + 1 by omega, show (q.length : Int) ≤ 200000 + (j + 1) by omega⟩, fun k' o' q' hk ho hq => hQ k' o' q' hk ?_ ?_⟩
      · rw [hs]; exact ho
      · rw [hs]; exact hq
  · have hj : ¬ j < ps.length := of_decide_eq_false hj
    rw [sucL_end (by omega), List.append_nil, List.append_nil] at hQ
    refine req_iff.2 ⟨by simp, req_iff.2 ⟨by simp, ?_⟩⟩
    rw [seg_self, seg_self]
    exact hQ a o q rfl rfl rfl
theorem ok85R : Lp2Ok Try.prog 85 1 lc85r := lp2_of (n := 5) (ex := fun _ => some (sh85re, 5)) (m := fun (ps, _, _, _, _, _, j, _) => mL ps j) ((good2_nilN _).addF2 ok82) fun (ps, (nl, k, o), q, i, a, m, j, ()) Q hx => by
  obtain ⟨⟨h0, h1, hk, h2, h3, hm, h5, h6⟩, hQ⟩ := hx
  have hk : k = a := hk
  have hm : m = (ps.length : Int) := hm
  subst hk hm
  exact h85R ps nl o q i k j Q h0 h1 h2 h3.1 h3.2 h5 h6 hQ
theorem noKey_iff {β : Type} {l : List (Ag × β)} {k : Ag} : noKey (tmGet P5 l k) = true ↔ k ∉ keysN l := by
  rw [← get_none]
  cases tmGet P5 l k <;> simp [noKey]
theorem inv_new {ps : List Int} (hp : okPs ps) {nl : NL} {q : List Ag} {i : Int} (h : InvQ ps nl q i) (hi : i < q.length) {a : Ag} (ha : a = q.getD i.toNat (0, 0, 0, 0, 0)) (hk : a ∉ keysN nl) :
    InvQ ps (nl ++ [(a, sucL ps a 0)]) (q ++ sucL ps a 0) (i + 1) ∧ nl.length + 1 ≤ 32768 := by
  have hn : i.toNat < q.length := by have := h.i0; omega
  have hav : validA ps a := by rw [ha]; exact h.qv _ (getD_mem hn _)
  have hnd : (keysN (nl ++ [(a, sucL ps a 0)])).Nodup := by
    have : keysN (nl ++ [(a, sucL ps a 0)]) = keysN nl ++ [a] := by simp [keysN]
    rw [this]; exact nodup_append_one h.n.nd hk
  have hok : ∀ e ∈ nl ++ [(a, sucL ps a 0)], validA ps e.1 ∧ e.2 = sucL ps e.1 0 := fun e he => by
    rcases List.mem_append.1 he with he | he
    · exact h.n.ok e he
    · rw [List.mem_singleton] at he; subst he; exact ⟨hav, rfl⟩
  have hsl := sucL_len ps a 0
  refine ⟨⟨⟨hnd, hok⟩, ⟨by have := h.i0; omega, by rw [List.length_append]; have := h.i0; omega⟩, List.mem_append_left _ h.z, ?_, fun b hb => ?_, fun e he b hb => ?_, fun j hj => ?_⟩, ?_⟩
  · have := h.ql
    have := hp.1.2
    simp only [List.length_append, List.length_singleton]; omega
  · rcases List.mem_append.1 hb with hb | hb
    · exact h.qv b hb
    · obtain ⟨k, _, _, hk⟩ := sucL_mem.1 hb
      exact nextR_valid hp hav hk
  · rcases List.mem_append.1 he with he | he
    · exact List.mem_append_left _ (h.suc e he b hb)
    · rw [List.mem_singleton] at he; subst he; exact List.mem_append_right _ hb
  · have hjq : j < q.length := by omega
    have e1 : (q ++ sucL ps a 0).getD j (0, 0, 0, 0, 0) = q.getD j (0, 0, 0, 0, 0) := by
      rw [List.getD_eq_getElem?_getD, List.getD_eq_getElem?_getD, List.getElem?_append_left hjq]
    rw [e1]
    by_cases e : (j : Int) < i
    · have := h.had j e
      simp only [keysN, List.map_append, List.mem_append]
      exact .inl this
    · have e2 : j = i.toNat := by omega
      rw [e2, ← ha]
      simp [keysN]
  · have := valid_len hp hnd fun x hx => by
      obtain ⟨e, he, rfl⟩ := List.mem_map.1 hx
      exact (hok e he).1
    simpa [keysN] using this
theorem h85L (ps : List Int) (nl : NL) (q : List Ag) (i : Int) (Q : LQ) (hp : okPs ps) (h : InvQ ps nl q i) (hQ : ∀ nl', FinN ps nl' → Q (.exit 0) (stS 3 sh85e (nl', ()))) :
    xloop2 Try.prog { nm := true, l2 := [(85, 1, lc85r)] } 5 85 0 lc85 (fun _ => some (sh85e, 3)) (fun (_, nl, q, i, _) => 6 * (32768 - nl.length) + mL q i) (ps, nl, q, i, ()) Q := by
  rw [v85L]
  have hi0 := h.i0
  have hnl : nl.length ≤ 32768 := by
    have := valid_len hp h.n.nd fun x hx => by
      obtain ⟨e, he, rfl⟩ := List.mem_map.1 hx
      exact (h.n.ok e he).1
    simpa [keysN] using this
  have hql := h.ql
  refine fork_iff.2 ⟨fun hi => ?_, fun hi => ?_⟩
  · have hi : i < q.length := of_decide_eq_true hi
    have hn : i.toNat < q.length := by omega
    refine req_iff.2 ⟨decide_eq_true ⟨hi0.1, hi⟩, req_iff.2 ⟨decide_eq_true hn, ?_⟩⟩
    generalize hga : q.getD i.toNat (0, 0, 0, 0, 0) = a
    refine fork_iff.2 ⟨fun hk => ?_, fun hk => ?_⟩
    · have hk := get_some.1 hk
      refine req_iff.2 ⟨inR_i64.2 (by omega), req_iff.2 ⟨by simp, ?_⟩⟩
      rw [seg_self]
      refine ⟨Nat.add_lt_add_left (mL_lt hi) _, ⟨hp, h.n, ⟨by omega, by omega⟩, h.z, h.ql, h.qv, h.suc, fun j hj => ?_⟩, hQ⟩
      by_cases e : (j : Int) < i
      · exact h.had j e
      · have e2 : j = i.toNat := by omega
        rw [e2, hga]; exact hk
    · have hk : a ∉ keysN nl := fun hm => by rw [get_some.2 hm] at hk; cases hk
      obtain ⟨g1, g2⟩ := inv_new hp h hi hga.symm hk
      have hav : validA ps a := by rw [← hga]; exact h.qv _ (getD_mem hn _)
      refine req_iff.2 ⟨noKey_iff.2 hk, req_iff.2 ⟨by simp, ⟨hp, hav, rfl, noKey_iff.2 hk, ⟨Int.le_refl 0, show (0 : Int) ≤ (ps.length : Int) by omega⟩, rfl, Int.le_refl 0, by rw [seg_self]; omega⟩, fun k' o' q' hk' ho hq => ?_⟩⟩
      have hk' : k' = a := hk'
      subst hk'
      rw [List.nil_append] at ho
      rw [seg_self] at hq
      subst ho hq
      refine req_iff.2 ⟨inR_i64.2 (by omega), req_iff.2 ⟨by simp, req_iff.2 ⟨by simp, ?_⟩⟩⟩
      rw [seg_self, seg_self]
      refine ⟨?_, ⟨hp, g1⟩, hQ⟩
      have hsl := sucL_len ps k' 0
      have := hp.1.2
      unfold mL
      simp only [List.length_append, List.length_singleton]
      omega
  · have hi : ¬ i < q.length := of_decide_eq_false hi
    have all : ∀ b ∈ q, b ∈ keysN nl := fun b hb => by
      obtain ⟨j, hj, rfl⟩ := List.mem_iff_getElem.1 hb
      have := h.had j (by omega)
      rw [List.getD_eq_getElem?_getD, List.getElem?_eq_getElem hj] at this
      exact this
    exact hQ nl ⟨h.n, all _ h.z, fun e he b hb => all b (h.suc e he b hb)⟩
theorem ok85L : Lp2Ok Try.prog 85 0 lc85 := lp2_of (n := 5) (ex := fun _ => some (sh85e, 3)) (m := fun (_, nl, q, i, _) => 6 * (32768 - nl.length) + mL q i) ((good2_nilN _).addL2 ok85R) fun (ps, nl, q, i, ()) Q hx => h85L ps nl q i Q hx.1.1 hx.1.2 hx.2
theorem mostK_eq (kl : KL) : ∀ (l : List Ag) (n : Int), mostK kl l n = l.foldl (fun m b => max m (getK kl b + 1)) n
  | [], n => rfl
  | b :: l, n => mostK_eq kl l _
theorem mostK_bd {kl : KL} {M : Int} (h : ∀ b, getK kl b + 1 ≤ M) : ∀ (l : List Ag) (n : Int), n ≤ M → n ≤ mostK kl l n ∧ mostK kl l n ≤ M
  | [], n, hn => ⟨Int.le_refl n, hn⟩
  | b :: l, n, hn => by
    have := h b
    obtain ⟨h1, h2⟩ := mostK_bd h l (max n (getK kl b + 1)) (by omega)
    exact ⟨by show n ≤ mostK kl l _; omega, h2⟩
theorem getK_bd {kl : KL} {M : Int} (h : ∀ e ∈ kl, 0 ≤ e.2 ∧ e.2 ≤ M) (hM : 0 ≤ M) (a : Ag) : 0 ≤ getK kl a ∧ getK kl a ≤ M := by
  unfold getK
  cases hg : tmGet P5 kl a with
  | none => exact ⟨Int.le_refl 0, hM⟩
  | some v => exact h _ (get_mem hg)
theorem h85S (nl : NL) (kl : KL) (c : Bool) (a : Ag) (n : Int) (al : Bool) (left : NL) (l : List Ag) (i : Int) (Q : LQ) (h0 : 0 ≤ i) (h1 : i ≤ l.length) (h2 : l.length ≤ 5) (h3 : ∀ e ∈ kl, 0 ≤ e.2 ∧ e.2 ≤ 100000)
    (hQ : ∀ n' al', n' = mostK kl (l.drop i.toNat) n → al' = (al && allK kl (l.drop i.toNat)) → Q (.exit 8) (stS 3 sh85se (nl, kl, c, a, n', al', left, ()))) :
    xloop2 Try.prog { nm := true } 5 85 4 lc85s (fun _ => some (sh85se, 3)) (fun (_, _, _, _, _, _, _, l, _, i, _) => mL l i) (nl, kl, c, a, n, al, left, l, (l.length : Int), i, ()) Q := by
  rw [v85S]
  refine fork_iff.2 ⟨fun hi => ?_, fun hi => ?_⟩
  · have hi : i < l.length := of_decide_eq_true hi
    rw [drop_step (0, 0, 0, 0, 0) h0 hi] at hQ
    generalize l.getD i.toNat (0, 0, 0, 0, 0) = b at *
    have hb := getK_bd h3 (by omega) b
    have hif : (if (tmGet P5 kl b).getD 0 + 1 > n then (tmGet P5 kl b).getD 0 + 1 else n) = max n (getK kl b + 1) := by
      show (if getK kl b + 1 > n then getK kl b + 1 else n) = _
      split <;> omega
    have hif2 : (if (tmGet P5 kl b).getD (0 : I.den) + 1 > n then (tmGet P5 kl b).getD (0 : I.den) + 1 else n) = max n (getK kl b + 1) := hif
    refine req_iff.2 ⟨decide_eq_true ⟨h0, hi⟩, req_iff.2 ⟨inR_i64.2 (show -9223372036854775808 ≤ getK kl b + 1 ∧ getK kl b + 1 ≤ 9223372036854775807 by omega), ?_⟩⟩
    have nxt : ∀ al', al' = (al && hasK kl b) → LC2.spec lc85s (nl, kl, c, a, max n (getK kl b + 1), al', left, l, (l.length : Int), i + 1, ()) Q := fun al' ha =>
      ⟨⟨rfl, ⟨show (0 : Int) ≤ i + 1 by omega, show i + 1 ≤ (l.length : Int) by omega⟩, h2, h3⟩, fun n' al'' hn hal => hQ n' al'' hn (by rw [hal, ha, Bool.and_assoc]; rfl)⟩
    refine fork_iff.2 ⟨fun ha => ?_, fun ha => ?_⟩
    · subst ha
      refine req_iff.2 ⟨inR_i64.2 (by omega), mL_lt hi, ?_⟩
      have := nxt (hasK kl b) rfl
      rw [← hif] at this
      exact this
    · subst ha
      refine req_iff.2 ⟨inR_i64.2 (by omega), mL_lt hi, ?_⟩
      have := nxt false rfl
      rw [← hif] at this
      exact this
  · have hi : ¬ i < l.length := of_decide_eq_false hi
    rw [drop_end hi] at hQ
    exact hQ n al rfl (by simp [allK])
theorem ok85S : Lp2Ok Try.prog 85 4 lc85s := lp2_of (n := 5) (ex := fun _ => some (sh85se, 3)) (m := fun (_, _, _, _, _, _, _, l, _, i, _) => mL l i) (good2_nilN _) fun (nl, kl, c, a, n, al, left, l, m, i, ()) Q hx => by
  obtain ⟨⟨hm, h1, h2, h3⟩, hQ⟩ := hx
  have hm : m = (l.length : Int) := hm
  subst hm
  exact h85S nl kl c a n al left l i Q h1.1 h1.2 h2 h3 hQ
theorem hasK_iff {kl : KL} {a : Ag} : hasK kl a = true ↔ a ∈ keysN kl := get_some
theorem hasK_no {kl : KL} {a : Ag} : hasK kl a = false ↔ a ∉ keysN kl := by
  rw [← hasK_iff]; cases hasK kl a <;> simp
theorem kn_le {nl : NL} {kl : KL} (h : KnI nl kl) : kl.length ≤ nl.length := by
  have := len_le_of_sub h.nd fun x hx => by
    obtain ⟨e, he, rfl⟩ := List.mem_map.1 hx
    exact h.sub e he
  simpa [keysN] using this
theorem kn_put {nl : NL} {kl : KL} (h : KnI nl kl) {a : Ag} {ss : List Ag} (hm : (a, ss) ∈ nl) (hk : a ∉ keysN kl) (hs : allK kl ss = true) : KnI nl (kl ++ [(a, mostK kl ss 0)]) := by
  have hss : ∀ b ∈ ss, b ∈ keysN kl := fun b hb => hasK_iff.1 (List.all_eq_true.1 hs b hb)
  have hbd : ∀ b, getK kl b + 1 ≤ (kl.length : Int) + 1 := fun b => by have := (getK_bd h.bd (by omega) b).2; omega
  have hmb := mostK_bd hbd ss 0 (by omega)
  refine ⟨?_, fun e he => ?_, fun e he => ?_, fun e he => ?_⟩
  · have : keysN (kl ++ [(a, mostK kl ss 0)]) = keysN kl ++ [a] := by simp [keysN]
    rw [this]; exact nodup_append_one h.nd hk
  · rcases List.mem_append.1 he with he | he
    · exact h.sub e he
    · rw [List.mem_singleton] at he; subst he; exact List.mem_map.2 ⟨_, hm, rfl⟩
  · rcases List.mem_append.1 he with he | he
    · exact h.rk e he
    · rw [List.mem_singleton] at he; subst he
      show Rk nl a (mostK kl ss 0)
      rw [mostK_eq]
      refine Rk.mk (getK kl) hm fun b hb => ?_
      obtain ⟨e, he, rfl⟩ := List.mem_map.1 (hss b hb)
      have := get_of_mem h.nd (show (e.1, e.2) ∈ kl from he)
      have hg : getK kl e.1 = e.2 := by unfold getK; rw [this]; rfl
      rw [hg]; exact h.rk e he
  · rw [List.length_append, List.length_singleton]
    rcases List.mem_append.1 he with he | he
    · have := h.bd e he; omega
    · rw [List.mem_singleton] at he; subst he
      exact ⟨hmb.1, by have := hmb.2; show mostK kl ss 0 ≤ _; omega⟩
theorem h85N (nl : NL) (kl : KL) (c : Bool) (left : NL) (Q : LQ) (h0 : GrI nl) (h1 : KnI nl kl) (h2 : ∀ e ∈ left, e ∈ nl) (hQ : ∀ kl' c', R3 nl kl c left kl' c' → Q (.exit 6) (stS 2 sh85ne (nl, kl', c', ()))) :
    xloop2 Try.prog { nm := true, l2 := [(85, 4, lc85s)] } 5 85 3 lc85n (fun _ => some (sh85ne, 2)) (fun (_, _, _, left, _) => left.length) (nl, kl, c, left, ()) Q := by
  rw [v85N]
  have hkl := kn_le h1
  refine ⟨fun he => hQ kl c ⟨h1, Nat.le_refl _, id, .inl, fun _ => ⟨rfl, fun e hm => by rw [he] at hm; cases hm⟩⟩, fun pre p post hl => ?_⟩
  have hmem : p ∈ nl := h2 p (by rw [hl]; simp)
  have hsub : ∀ e ∈ pre ++ post, e ∈ nl := fun e he => h2 e (by rw [hl]; rcases List.mem_append.1 he with he | he <;> simp [he])
  have hlen : (pre ++ post).length < left.length := by rw [hl]; simp
  have more : ∀ kl' c', openK kl p → R3 nl kl c (pre ++ post) kl' c' → R3 nl kl c left kl' c' := fun kl' c' ho hr => ⟨hr.k, hr.le, hr.up, hr.ch, fun hc => ⟨(hr.no hc).1, fun e he => by
    rw [hl] at he
    rcases List.mem_append.1 he with he | he
    · exact (hr.no hc).2 e (List.mem_append_left _ he)
    · rcases List.mem_cons.1 he with rfl | he
      · exact ho
      · exact (hr.no hc).2 e (List.mem_append_right _ he)⟩⟩
  refine fork_iff.2 ⟨fun hk => ?_, fun hk => ?_⟩
  · refine ⟨hlen, ⟨h0, h1, hsub⟩, fun kl' c' hr => hQ kl' c' (more kl' c' (fun hn => ?_) hr)⟩
    have hk : hasK kl p.1 = true := hk
    rw [hk] at hn; cases hn
  · have hk : hasK kl p.1 = false := hk
    have hl5 := h0.l5 p hmem
    refine ⟨⟨rfl, ⟨Int.le_refl 0, show (0 : Int) ≤ (p.2.length : Int) by omega⟩, hl5, fun e he => ?_⟩, fun n' al' hn hal => ?_⟩
    · have hb := h1.bd e he
      have hl := h0.le
      have hb2 : e.2 ≤ (kl.length : Int) := hb.2
      exact ⟨hb.1, Int.le_trans hb2 (show (kl.length : Int) ≤ 100000 by omega)⟩
    rw [List.drop_zero] at hn hal
    have hal : al' = allK kl p.2 := by rw [hal]; rfl
    refine fork_iff.2 ⟨fun ha => ?_, fun ha => ?_⟩
    · rw [ha] at hal
      have hkp := kn_put h1 (show (p.1, p.2) ∈ nl from hmem) (hasK_no.1 hk) hal.symm
      rw [put_new (hasK_no.1 hk), hn]
      refine ⟨hlen, ⟨h0, hkp, hsub⟩, fun kl' c' hr => hQ kl' c' ?_⟩
      have hle := hr.le
      rw [List.length_append, List.length_singleton] at hle
      have hc := hr.up rfl
      exact ⟨hr.k, by omega, fun _ => hc, fun _ => .inr (by omega), fun hf => by rw [hc] at hf; cases hf⟩
    · rw [ha] at hal
      refine ⟨hlen, ⟨h0, h1, hsub⟩, fun kl' c' hr => hQ kl' c' (more kl' c' (fun _ => ?_) hr)⟩
      have hal : p.2.all (hasK kl) = false := hal.symm
      rw [List.all_eq_false] at hal
      obtain ⟨b, hb, hb2⟩ := hal
      exact ⟨b, hb, by simpa using hb2⟩
theorem ok85N : Lp2Ok Try.prog 85 3 lc85n := lp2_of (n := 5) (ex := fun _ => some (sh85ne, 2)) (m := fun (_, _, _, left, _) => left.length) ((good2_nilN _).addL2 ok85S) fun (nl, kl, c, left, ()) Q hx => h85N nl kl c left Q hx.1.1 hx.1.2.1 hx.1.2.2 hx.2
theorem h85F (nl : NL) (kl : KL) (c : Bool) (Q : LQ) (h0 : GrI nl) (h1 : KnI nl kl) (h2 : c = false → Fix nl kl) (hQ : ∀ kl', Fix nl kl' → Q (.exit 4) (stS 1 sh85fe (nl, kl', ()))) :
    xloop2 Try.prog { nm := true, l2 := [(85, 3, lc85n)] } 5 85 2 lc85f (fun _ => some (sh85fe, 1)) (fun (nl, kl, c, _) => 2 * (nl.length - kl.length) + bN c) (nl, kl, c, ()) Q := by
  rw [v85F]
  refine fork_iff.2 ⟨fun hc => ?_, fun hc => hQ kl (h2 hc)⟩
  subst hc
  refine ⟨⟨h0, h1, fun e he => he⟩, fun kl' c' hr => ⟨?_, ⟨h0, hr.k, fun hc => ?_⟩, hQ⟩⟩
  · have hk := kn_le hr.k
    have := kn_le h1
    cases c' with
    | true =>
      rcases hr.ch rfl with h | h
      · cases h
      · show 2 * (nl.length - kl'.length) + 1 < 2 * (nl.length - kl.length) + 1; omega
    | false =>
      have := (hr.no rfl).1
      subst this
      show 2 * (nl.length - kl'.length) + 0 < 2 * (nl.length - kl'.length) + 1; omega
  · obtain ⟨e, ho⟩ := hr.no hc
    subst e
    exact ⟨h1, ho⟩
theorem ok85F : Lp2Ok Try.prog 85 2 lc85f := lp2_of (n := 5) (ex := fun _ => some (sh85fe, 1)) (m := fun (nl, kl, c, _) => 2 * (nl.length - kl.length) + bN c) ((good2_nilN _).addL2 ok85N) fun (nl, kl, c, ()) Q hx => h85F nl kl c Q hx.1.1 hx.1.2.1 hx.1.2.2 hx.2
theorem h85Z (kl : KL) (left : NL) (Q : LQ) (hQ : ∀ kl', R5 left kl kl' → Q (.exit 10) (stS 2 sh85ze (kl', ()))) :
    xloop2 Try.prog { nm := true } 5 85 5 lc85z (fun _ => some (sh85ze, 2)) (fun (_, left, _) => left.length) (kl, left, ()) Q := by
  rw [v85Z]
  refine ⟨fun he => hQ kl ⟨fun a v h => h, fun e hm => by rw [he] at hm; cases hm⟩, fun pre p post hl => ?_⟩
  have hlen : (pre ++ post).length < left.length := by rw [hl]; simp
  refine fork_iff.2 ⟨fun hk => ?_, fun hk => ?_⟩
  · have hk : p.1 ∉ keysN kl := get_none.1 (by cases hg : tmGet P5 kl p.1 with | none => rfl | some v => rw [hg] at hk; cases hk)
    rw [put_new hk]
    refine ⟨hlen, fun kl' hr => hQ kl' ⟨fun a v h => hr.old a v ?_, fun e he hn => ?_⟩⟩
    · rw [get_app hk, if_neg]
      · exact h
      · rintro rfl; exact hk (List.mem_map.2 ⟨_, get_mem h, rfl⟩)
    · by_cases e1 : e.1 = p.1
      · refine hr.old _ _ ?_
        rw [get_app hk, if_pos e1]
      · have he : e ∈ pre ++ post := by
          rw [hl] at he
          rcases List.mem_append.1 he with he | he
          · exact List.mem_append_left _ he
          · rcases List.mem_cons.1 he with rfl | he
            · exact absurd rfl e1
            · exact List.mem_append_right _ he
        refine hr.new e he ?_
        rw [get_app hk, if_neg e1]; exact hn
  · refine ⟨hlen, fun kl' hr => hQ kl' ⟨hr.old, fun e he hn => hr.new e ?_ hn⟩⟩
    rw [hl] at he
    rcases List.mem_append.1 he with he | he
    · exact List.mem_append_left _ he
    · rcases List.mem_cons.1 he with rfl | he
      · rw [hn] at hk; cases hk
      · exact List.mem_append_right _ he
theorem ok85Z : Lp2Ok Try.prog 85 5 lc85z := lp2_of (n := 5) (ex := fun _ => some (sh85ze, 2)) (m := fun (_, left, _) => left.length) (good2_nilN _) fun (kl, left, ()) Q hx => h85Z kl left Q hx
theorem fin_gr {ps : List Int} (hp : okPs ps) {nl : NL} (h : FinN ps nl) : GrI nl := by
  refine ⟨h.n.nd, ?_, fun e he => ?_⟩
  · have := valid_len hp h.n.nd fun x hx => by
      obtain ⟨e, he, rfl⟩ := List.mem_map.1 hx
      exact (h.n.ok e he).1
    have : nl.length ≤ 32768 := by simpa [keysN] using this
    omega
  · rw [(h.n.ok e he).2]
    have := sucL_len ps e.1 0
    have := hp.1.2
    omega
theorem ok85 : F2Ok Try.prog 85 fc85 := fn2_of (n := 5) ((((good2_nilN _).addL2 ok85Z).addL2 ok85F).addL2 ok85L) fun (ps, ()) K hx => by
  obtain ⟨hp, hK⟩ := hx
  have hK : ∀ kl, EvR ps kl → K ((), kl, ()) := hK
  rw [v85]
  refine ⟨⟨hp, ⟨List.nodup_nil, fun e h => by cases h⟩, ⟨Int.le_refl 0, by simp⟩, by simp, by simp, fun a ha => ?_, fun e h => (by cases h), fun j hj => by omega⟩, fun nl hf => ⟨⟨fin_gr hp hf, ⟨List.nodup_nil, fun e h => (by cases h), fun e h => (by cases h), fun e h => (by cases h)⟩, fun h => (by cases h)⟩, fun kl hx kl' hr => hK kl' ⟨nl, kl, hf, hx, hr⟩⟩⟩
  rw [List.mem_singleton] at ha; subst ha; exact valid_zero hp
end Go.P10
