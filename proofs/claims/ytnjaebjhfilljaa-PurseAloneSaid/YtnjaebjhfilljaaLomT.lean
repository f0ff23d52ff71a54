/- Regions that draw their order: one order serves all: the theorem itself. -/
import Derived.Test.YtnjaebjhfilljaaLomS
set_option linter.unusedSimpArgs false
set_option linter.unusedVariables false
namespace Go.Lom
open Go.RowKit

section
variable {P : Program} {N n0 : Nat} {ops : Array Oper} {Q : AX → St → Prop}
variable {listed : Array Bool} {L seen rest pend : List Nat} {σ : St} {Hr : Heap} {G : List Kept} {base : Nat → Prop} {w0 : Start} {Z : ZMap} {φ : PMap} {a : Act} {w : World}

/-- A late operation has come up. -/
theorem Inv.late_step (h : Inv P N ops Q listed L seen rest pend σ Hr G base w0 Z φ a w) {i : Nat} {o : Oper} (ho : ops[i]? = some o) (hi : i ∈ L)
    (he : ∀ e ∈ o.after, Region.binds .any e = true → listed.getD e.on false = true) {Z' : ZMap} {φ' : PMap} {Hr' : Heap} {G' : List Kept} {w' : World} (hZ : ZLe Z Z') (hφ : PLe φ φ') (hS : Sub Hr Hr') (hH : HRel base w0 Z' φ' Hr' σ.nx w')
    (hG : ∀ v, v ∈ G' ↔ v ∈ G ∧ v.i ≠ i) (hb : ∀ v ∈ G', φ' v.b = none ∧ Hr'.get v.b = none) (hHe : ∀ c y, σ.H.get c = some y → Hr'.get c = some y ∨ ∃ v ∈ G', v.b = c ∧ y = .row v.cs.length [v.cs])
    {v : Value} (hv : ∀ d, o.dst = some d → Rep Z' φ' (σ.fr.get d) v) :
    Inv P N ops Q (listed.setIfInBounds i true) (L.filter (· ≠ i)) seen rest pend σ Hr' G' base w0 Z' φ' (a.put o.dst v) w' := by
  have hlt : i < ops.size := (Array.getElem?_eq_some_iff.1 ho).1
  have hil : i < listed.size := by rw [h.lsz]; exact hlt
  have hdst : dstOk N o = true := by
    obtain ⟨o', ho', hd, _⟩ := h.late i hi
    rw [ho] at ho'; injection ho' with ho'; subst ho'; exact hd
  have memF : ∀ j, j ∈ L.filter (· ≠ i) ↔ j ∈ L ∧ j ≠ i := fun j => by simp
  refine ⟨fun j hj => ?_, by simpa using h.lsz, fun j hj => h.hL j ((memF j).1 hj).1, h.bound, fun j k hj hjn hk => ?_, h.ok, h.edges, fun j hj => ?_,
    fun j hj => h.apart j ((memF j).1 hj).1, fun t ht => ?_, by rw [put_size]; exact h.size, by rw [put_defs]; exact h.df.mono hZ hφ, hH, fun v hv => ?_, fun v hv => ⟨(h.gb v ((hG v).1 hv).1).1, hb v hv⟩,
    fun u hu v hv => h.gd u ((hG u).1 hu).1 v ((hG v).1 hv).1, hHe, h.v⟩
  · rw [getD_set i j true hil, memF]
    by_cases hji : j = i
    · subst hji; simp [h.hL j hi]
    · rw [if_neg hji, h.hl j hj]; simp [hji]
  · rw [getD_set i j true hil] at hj
    rw [getD_set i k false hil]
    by_cases hki : k = i
    · rw [if_pos hki]
    · rw [if_neg hki]
      by_cases hji : j = i
      · subst hji; exact h.preDone ho he hk
      · rw [if_neg hji] at hj; exact h.closed j k hj hjn hk
  · obtain ⟨hjL, hji⟩ := (memF j).1 hj
    obtain ⟨oj, k1, k2, k3, k4⟩ := h.late j hjL
    refine ⟨oj, k1, k2, k3, ?_⟩
    rcases k4 with ⟨k4, k5⟩ | ⟨t, b, cs, k4, k5, k6, k7, k8⟩
    · refine .inl ⟨k4, ?_⟩
      have hx : LateX P pend j oj σ.fr Hr → LateX P pend j oj σ.fr Hr' := fun ⟨⟨r, h1, h2⟩, h3⟩ => ⟨⟨r, lateV_sub hS h1, h2⟩, h3⟩
      unfold LateG at *
      split
      · rename_i hg; rw [hg] at k5; exact hx k5
      · rename_i x want hg; rw [hg] at k5; obtain ⟨b, h1, h2, h3⟩ := k5; exact ⟨b, h1, fun e => hx (h2 e), h3⟩
    · exact .inr ⟨t, b, cs, k4, k5, k6, (hG _).2 ⟨k7, hji⟩, k8⟩
  · cases hod : o.dst with
    | none =>
      exact (h.frm t fun j hj oj hoj => by
        by_cases hji : j = i
        · subst hji; rw [ho] at hoj; injection hoj with hoj; subst hoj; rw [hod]; simp
        · exact ht j ((memF j).2 ⟨hj, hji⟩) oj hoj).mono hZ hφ
    | some d =>
      by_cases htd : t = d
      · subst htd
        rw [put_tmps_self (dstOk_lt hdst h.size t hod)]
        exact hv t hod
      · rw [put_tmps (by intro e; injection e with e; exact htd e.symm)]
        exact (h.frm t fun j hj oj hoj => by
          by_cases hji : j = i
          · subst hji; rw [ho] at hoj; injection hoj with hoj; subst hoj; rw [hod]; intro e; injection e with e; exact htd e.symm
          · exact ht j ((memF j).2 ⟨hj, hji⟩) oj hoj).mono hZ hφ
  · obtain ⟨h1, h2⟩ := (hG v).1 hv
    exact ⟨(memF _).2 ⟨(h.gL v h1).1, h2⟩, (h.gL v h1).2⟩

/-- An operation that must not come late has come up, and left this. -/
theorem Inv.hard_step {i : Nat} {o : Oper} (h : Inv P N ops Q listed L seen (i :: rest) pend σ Hr [] base w0 Z φ a w) (ho : ops[i]? = some o) (hf : freeB ops (masks ops.toList []) seen o = false) (hfa : freeA ops seen o = false)
    (he : ∀ e ∈ o.after, Region.binds .any e = true → listed.getD e.on false = true) (hdst : dstOk N o = true) {Z' : ZMap} {φ' : PMap} (hZ : ZLe Z Z') (hφ : PLe φ φ') {r : AV} {v : Value} (hr : Rep Z' φ' r v)
    {H' Hr' : Heap} {nx' : Nat} {df' : List ADef} {ds' : List Deferred} {w' : World} (hD : DfRel P Z' φ' df' ds') (hH : HRel base w0 Z' φ' Hr' nx' w') (hSub : Sub H' Hr')
    (hst : ∀ p ∈ pend, preB (masks ops.toList []) p i = false → stable P ops (σ.fr.put o.dst r) Hr' p ∨ Hr' = Hr)
    (hv : VReg P N ops (masks ops.toList []) Q rest (i :: seen) pend ⟨σ.fr.put o.dst r, H', nx', df'⟩) :
    Inv P N ops Q (listed.setIfInBounds i true) L (i :: seen) rest pend ⟨σ.fr.put o.dst r, H', nx', df'⟩ Hr' [] base w0 Z' φ' ({ a with defers := ds' }.put o.dst v) w' := by
  have hlt : i < ops.size := (Array.getElem?_eq_some_iff.1 ho).1
  have hil : i < listed.size := by rw [h.lsz]; exact hlt
  obtain ⟨hs1, hns, hok⟩ := regOk_head h.ok
  obtain ⟨o', ho', hed, hrd, hcase⟩ := regStep_spec hs1
  rw [ho] at ho'; injection ho' with ho'; subst ho'
  have hiL : i ∉ L := fun hm => hns (h.hL i hm)
  have notPre : ∀ j ∈ L, preB (masks ops.toList []) j i = false := fun j hj => by
    cases hp : preB (masks ops.toList []) j i with
    | false => rfl
    | true => exact absurd hj (h.notLate (h.preDone ho he hp))
  have hconf : ∀ j ∈ L, ∀ oj, ops[j]? = some oj → ∀ d, o.dst = some d → d ∉ tmpsOf ops oj ∧ oj.dst ≠ some d := by
    intro j hj oj hoj d hd
    rw [hf] at hcase
    simp only [Bool.false_eq_true, if_false, hfa, false_or] at hcase
    obtain ⟨_, _, hc⟩ := hcase
    rcases hc j (h.hL j hj) with hc | hc
    · rw [notPre j hj] at hc; cases hc
    · exact names_tmps (hc d hd oj hoj)
  refine ⟨fun j hj => ?_, by simpa using h.lsz, fun j hj => List.mem_cons_of_mem _ (h.hL j hj), fun j hj => ?_, fun j k hj hjn hk => ?_, hok, ?_, ?_, ?_, fun t ht => ?_, by rw [put_size]; exact h.size, by rw [put_defs]; exact hD, hH, fun v hv => (by cases hv), fun v hv => (by cases hv), fun v hv => (by cases hv), fun c y hc => .inl (hSub c y hc), hv⟩
  · rw [getD_set i j true hil]
    by_cases hji : j = i
    · subst hji; simp [hiL]
    · rw [if_neg hji, h.hl j hj]; simp [hji]
  · rcases List.mem_cons.1 hj with rfl | hj
    · exact hlt
    · exact h.bound j hj
  · rw [getD_set i j true hil] at hj
    rw [getD_set i k false hil]
    by_cases hki : k = i
    · rw [if_pos hki]
    · rw [if_neg hki]
      by_cases hji : j = i
      · subst hji; exact h.preDone ho he hk
      · rw [if_neg hji] at hj; exact h.closed j k hj hjn hk
  · intro l1 x l2 hsp ox hox e hm hb
    cases l1 with
    | nil =>
      simp only [List.nil_append, List.cons.injEq] at hsp
      obtain ⟨rfl, rfl⟩ := hsp
      rw [ho] at hox; injection hox with hox; subst hox
      exact hed e hm hb
    | cons y l1 =>
      simp only [List.cons_append, List.cons.injEq] at hsp
      exact h.edges l1 x l2 hsp.2 ox hox e hm hb
  · intro j hj
    obtain ⟨oj, hoj, g2, g3, g4⟩ := h.late j hj
    have hd := hconf j hj oj hoj
    rcases g4 with ⟨g1, g4⟩ | ⟨_, _, _, _, _, _, g5, _⟩
    case inr => cases g5
    refine ⟨oj, hoj, g2, g3, .inl ⟨g1, late_put hd (fun hx => ?_) g4⟩⟩
    obtain ⟨⟨q, hq1, hq2⟩, hp⟩ := hx
    cases hrd' : readsQ oj.op with
    | true =>
      rcases hst j (hp hrd') (notPre j hj) with hs | hs
      · unfold stable at hs
        rw [hoj] at hs
        rw [lateV_reads hrd']
        exact hs
      · refine ⟨q, ?_, fun d hdd => ?_⟩
        · rw [hs, ← lateV_congr (agree_put (ops := ops) fun d e => (hd d e).1)]; exact hq1
        · rw [put_get fun e => (hd d e).2 hdd]; exact hq2 d hdd
    | false =>
      refine ⟨q, ?_, fun d hdd => ?_⟩
      · rw [lateV_noread (H' := Hr) hrd', ← lateV_congr (agree_put (ops := ops) fun d e => (hd d e).1)]; exact hq1
      · rw [put_get fun e => (hd d e).2 hdd]; exact hq2 d hdd
  · intro j hj k hk hkj oj ok d hoj hok' hd
    rcases List.mem_cons.1 hk with rfl | hk2
    · rw [ho] at hok'; injection hok' with hok'; subst hok'
      refine ⟨fun hm => hrd j (h.hL j hj) oj d hoj hd hm, fun e => (hconf j hj oj hoj d e).2 hd⟩
    · exact h.apart j hj k hk2 hkj oj ok d hoj hok' hd
  · cases hod : o.dst with
    | none => simp only [Fr.put, Act.put]; exact (h.frm t ht).mono hZ hφ
    | some d =>
      by_cases htd : t = d
      · subst htd
        rw [put_get_self, put_tmps_self (dstOk_lt (a := { a with defers := ds' }) hdst h.size t hod)]
        exact hr
      · have hne : (some d : Option Tmp) ≠ some t := by intro e; injection e with e; exact htd e.symm
        rw [put_get hne, put_tmps hne]
        exact (h.frm t ht).mono hZ hφ

theorem count_set {listed : Array Bool} {n i : Nat} (hi : i < n) (hu : listed.getD i true = false) (hsz : listed.size = n) :
    ((List.range n).filter fun j => !(listed.setIfInBounds i true).getD j true).length < ((List.range n).filter fun j => !listed.getD j true).length := by
  have hil : i < listed.size := by omega
  have e1 : (fun j => !(listed.setIfInBounds i true).getD j true) = fun j => (!listed.getD j true) && (decide (j ≠ i)) := by
    funext j
    rw [getD_set i j true hil]
    by_cases h : j = i
    · subst h; simp
    · rw [if_neg h]; simp [h]
  rw [e1, ← List.filter_filter]
  have hmem : i ∈ (List.range n).filter fun j => !listed.getD j true := List.mem_filter.2 ⟨List.mem_range.2 hi, by rw [hu]; rfl⟩
  have e2 : ((List.range n).filter fun a => decide (a ≠ i)).filter (fun a => !listed.getD a true) = ((List.range n).filter fun a => !listed.getD a true).filter fun a => decide (a ≠ i) := by
    rw [List.filter_filter, List.filter_filter]; congr 1; funext x; rw [Bool.and_comm]
  rw [e2]
  exact List.length_filter_lt_length_iff_exists.2 ⟨i, hmem, by simp⟩

theorem wpOp_mono2 {R R' : Exit → Act → World → Prop} {K K' : Act → World → Prop} {i : Nat} (hK : ∀ a w, K a w → K' a w) (hQ : ∀ e a w, R e a w → R' e a w) {a : Act} {w : World} (h : wpOp P ops R i K a w) : wpOp P ops R' i K' a w := by
  unfold wpOp at *
  split
  · rename_i ho; rw [ho] at h; exact hK _ _ h
  · rename_i o ho
    rw [ho] at h
    simp only at h
    split
    · rename_i hw
      rw [if_pos hw] at h
      rcases h with h | ⟨h1, a0, w0, h2⟩
      · exact .inl (operWp_mono hK hQ h)
      · exact .inr ⟨h1, a0, w0, hQ _ _ _ h2⟩
    · rename_i hw
      rw [if_neg hw] at h
      exact hK _ _ h
theorem wpAny_mono {R R' : Exit → Act → World → Prop} (hQ : ∀ e a w, R e a w → R' e a w) : ∀ (fuel : Nat) {listed : Array Bool} {a : Act} {w : World}, wpAny P .any ops R fuel listed a w → wpAny P .any ops R' fuel listed a w
  | 0, listed, a, w, h => ⟨h.1, hQ _ _ _ h.2⟩
  | fuel + 1, listed, a, w, h => ⟨fun hr => hQ _ _ _ (h.1 hr), fun i hi => wpOp_mono2 (fun _ _ h => wpAny_mono hQ fuel h) hQ (h.2 i hi)⟩

theorem any_of_inv : ∀ (fuel : Nat) {listed : Array Bool} {L seen rest pend : List Nat} {σ : St} {Hr : Heap} {G : List Kept} {base : Nat → Prop} {w0 : Start} {Z : ZMap} {φ : PMap} {a : Act} {w : World},
    Inv P N ops Q listed L seen rest pend σ Hr G base w0 Z φ a w → Stops ops seen rest → ((List.range ops.size).filter fun j => !listed.getD j true).length ≤ fuel →
    wpAny P .any ops (Lift P base w0 N n0 Z φ Q) fuel listed a w
  | fuel, listed, L, seen, rest, pend, σ, Hr, G, base, w0, Z, φ, a, w, h, hst, hfuel => by
    have fin : Region.ready .any ops listed = [] → Lift P base w0 N n0 Z φ Q .normal a w := by
      intro hr
      obtain ⟨h1, h2⟩ := h.done hst hr
      subst h1 h2
      have hG0 : G = [] := h.noG fun j hj p hp ha hjL => by cases hjL
      subst hG0
      have hv := h.v
      unfold VReg at hv
      exact ⟨Z, φ, .normal, σ, ZLe.refl _, PLe0.refl _ _, trivial, ⟨fun t => h.frm t fun i hi => by simp at hi, h.size, h.df, h.heap.sub h.subH⟩, hv⟩
    cases fuel with
    | zero =>
      have hr : Region.ready .any ops listed = [] := by
        cases hx : Region.ready .any ops listed with
        | nil => rfl
        | cons i l =>
          exfalso
          have hm : i ∈ Region.ready .any ops listed := by rw [hx]; simp
          obtain ⟨hu, o, ho, _⟩ := mem_ready.1 hm
          have hlt : i < ops.size := (Array.getElem?_eq_some_iff.1 ho).1
          have : i ∈ (List.range ops.size).filter fun j => !listed.getD j true := List.mem_filter.2 ⟨List.mem_range.2 hlt, by rw [hu]; rfl⟩
          have := List.length_pos_of_mem this
          omega
      exact ⟨hr, fin hr⟩
    | succ fuel =>
      refine ⟨fin, fun i hi => ?_⟩
      obtain ⟨hu, o, ho, he⟩ := mem_ready.1 hi
      have hlt : i < ops.size := (Array.getElem?_eq_some_iff.1 ho).1
      have hcount := count_set (listed := listed) hlt hu h.lsz
      unfold wpOp
      rw [ho]
      simp only
      by_cases hiL : i ∈ L
      · -- it was late
        obtain ⟨o', ho', hdst, hself, hGa⟩ := h.late i hiL
        rw [ho] at ho'; injection ho' with ho'; subst ho'
        have hclr := h.clear_ ho he (fun _ => hself) (fun j hj hji oj d hoj hd hm => (h.apart j hj i (h.hL i hiL) (Ne.symm hji) oj o d hoj ho hd).1 hm)
        rcases hGa with ⟨hq, hG⟩ | ⟨t, b, cs, hop, hg, hcs, hmem, hfd⟩
        · have noi : ∀ v ∈ G, v.i ≠ i := fun v hv e => by
            obtain ⟨_, o', ho', ha⟩ := h.gL v hv
            rw [e, ho] at ho'; injection ho' with ho'; subst ho'
            rw [isA_hard ha] at hq; cases hq
          have next : ∀ Z' w' v, ZLe Z Z' → HRel base w0 Z' φ Hr σ.nx w' → (∀ d, o.dst = some d → Rep Z' φ (σ.fr.get d) v) → wpAny P .any ops (Lift P base w0 N n0 Z φ Q) fuel (listed.setIfInBounds i true) (a.put o.dst v) w' := fun Z' w' v hZ hH hv =>
            wpAny_mono (fun e a w hl => hl.mono hZ (PLe0.refl _ _) fun _ _ h => h) fuel
              (any_of_inv fuel (h.late_step ho hiL he hZ (PLe.refl _) (Sub.refl _) hH (fun v => ⟨fun hv => ⟨hv, noi v hv⟩, fun hv => hv.1⟩) (fun v hv => (h.gb v hv).2) h.gH hv) hst (by omega))
          have exec : LateX P pend i o σ.fr Hr → o.wp P a w (wpAny P .any ops (Lift P base w0 N n0 Z φ Q) fuel (listed.setIfInBounds i true)) (Lift P base w0 N n0 Z φ Q) := by
            rintro ⟨⟨q, hq1, hq2⟩, _⟩
            rw [lateV_congr (agree_mask hclr)] at hq1
            obtain ⟨v, Z', w', hv, hZ, hH, hrep⟩ := sound_late h.heap h.maskRel hq1
            unfold Oper.wp
            rw [hv]
            exact next Z' w' v hZ hH fun d hd => by rw [hq2 d hd]; exact hrep
          cases hg : o.guard with
          | none =>
            have hw : Region.wanted o (yielded ops a.tmps) = true := by simp [Region.wanted, hg]
            rw [if_pos hw]
            unfold LateG at hG; rw [hg] at hG
            exact .inl (exec hG)
          | some p =>
            obtain ⟨j, want⟩ := p
            unfold LateG at hG; rw [hg] at hG
            obtain ⟨b, hb, h1, h2⟩ := hG
            have hy := guard_yielded h.maskRel h.size (by rw [guardV_mask hg hclr]; exact hb)
            by_cases hbw : b = some want
            · have hw : Region.wanted o (yielded ops a.tmps) = true := by simp [Region.wanted, hg, hy, hbw]
              rw [if_pos hw]
              exact .inl (exec (h1 hbw))
            · have hw : ¬ Region.wanted o (yielded ops a.tmps) = true := by simp [Region.wanted, hg, hy, hbw]
              rw [if_neg hw]
              exact next Z w _ (ZLe.refl _) h.heap fun d hd => by rw [h2 hbw d hd]; exact rep_skip _ _
        · -- a variable
          have hw : Region.wanted o (yielded ops a.tmps) = true := by simp [Region.wanted, hg]
          rw [if_pos hw]
          obtain ⟨hb1, hb2, hb3⟩ := h.gb _ hmem
          obtain ⟨v, φ', w', hrun, hφ, hfr', hrep, hH'⟩ := sound_allocAt h.heap hb2 hb1 hcs
          refine .inl ?_
          have hex : (execOp a.eval o).run P w = .ok (.value v) w' := by
            obtain ⟨dst, op, ty, pos, after, guard⟩ := o
            simp only at hop; subst hop
            exact run_bind' hrun rfl
          unfold Oper.wp
          rw [hex]
          have hne : ∀ x y, Hr.get x = some y → x ≠ b := fun x y hx e => by
            simp only at hb3
            rw [e, hb3] at hx; cases hx
          have hS : Sub Hr (Hr.set b (.row cs.length [cs])) := fun x y hx => by rw [Heap.get_set, if_neg (hne x y hx)]; exact hx
          have hmF : ∀ v, v ∈ G.filter (fun v => v.i ≠ i) ↔ v ∈ G ∧ v.i ≠ i := fun v => by simp
          refine wpAny_mono (fun e a w hl => hl.mono (ZLe.refl _) hφ.to0 fun _ _ h => h) fuel
            (any_of_inv fuel (h.late_step ho hiL he (ZLe.refl _) hφ hS hH' hmF (fun u hu => ?_) (fun c y hc => ?_) fun d hd => by rw [hfd d hd]; exact hrep) hst (by omega))
          · obtain ⟨hu1, hu2⟩ := (hmF u).1 hu
            have hub : u.b ≠ b := fun e => hu2 (by have := (h.gd u hu1 _ hmem).2 e; rw [this])
            rw [hfr' _ hub, Heap.get_set, if_neg hub]
            exact (h.gb u hu1).2
          · rcases h.gH c y hc with h1 | ⟨u, hu, rfl, rfl⟩
            · exact .inl (hS _ _ h1)
            · by_cases hui : u.i = i
              · have := (h.gd u hu _ hmem).1 hui
                subst this
                exact .inl (Heap.get_set_self _ _ _)
              · exact .inr ⟨u, (hmF u).2 ⟨hu, hui⟩, rfl, rfl⟩
      · -- it is the next one of the walk
        have hnseen : i ∉ seen := fun hm => by
          have := (h.hl i hlt).2 ⟨hm, hiL⟩
          rw [hu] at this; cases this
        rcases hst with hnil | ⟨i', rest', o', hrest, ho', hf, hfa⟩
        · subst hnil
          rcases regOk_all h.ok i hlt with h1 | h1
          · cases h1
          · exact absurd h1 hnseen
        subst hrest
        obtain ⟨hs1, hns, hok⟩ := regOk_head h.ok
        obtain ⟨o2, ho2, hed, hrd, hcase⟩ := regStep_spec hs1
        rw [ho'] at ho2; injection ho2 with ho2; subst ho2
        rw [hf] at hcase
        simp only [Bool.false_eq_true, if_false, hfa, false_or] at hcase
        obtain ⟨hc, hcA, _⟩ := hcase
        have hii : i = i' := by
          rcases regOk_all h.ok i hlt with h1 | h1
          · rcases List.mem_cons.1 h1 with h2 | h2
            · exact h2
            · exfalso
              · have h3 := h.preDone ho he (hc i h2)
                have hlt' : i' < ops.size := (Array.getElem?_eq_some_iff.1 ho').1
                rw [getD_iff (by rw [h.lsz]; exact hlt')] at h3
                exact hns ((h.hl i' hlt').1 h3).1
          · exact absurd h1 hnseen
        subst hii
        rw [ho] at ho'; injection ho' with ho'; subst ho'
        have hG0 : G = [] := h.noG fun j hj p hp ha => h.notLate (h.preDone ho he (hcA j hj p hp ha))
        subst hG0
        have hH0 := h.heap.sub h.subH
        have hclr := h.clear_ ho he (fun hm => absurd hm hiL) (fun j hj hji oj d hoj hd hm => hrd j (h.hL j hj) oj d hoj hd hm)
        have hv := h.v
        unfold VReg at hv
        rw [ho] at hv
        simp only [hf, Bool.false_eq_true, if_false] at hv
        obtain ⟨hdst, hv⟩ := hv
        have exec : SOpR P o σ.fr σ.H σ.nx σ.df (fun r H nx df => (∀ p ∈ pend, preB (masks ops.toList []) p i = false → stable P ops (σ.fr.put o.dst r) H p) ∧ VReg P N ops (masks ops.toList []) Q rest' (i :: seen) pend ⟨σ.fr.put o.dst r, H, nx, df⟩)
            (fun v H nx => Q (.panic v) ⟨forget ops σ.fr, H, nx, σ.df⟩) → o.wp P a w (wpAny P .any ops (Lift P base w0 N n0 Z φ Q) fuel (listed.setIfInBounds i true)) (Lift P base w0 N n0 Z φ Q) := by
          intro hop
          refine wp_opR (SOpR_congr (agree_mask hclr) hop) h.maskRel h.df hH0 (fun Z' φ' r v H' nx' df' ds' w' hZ hφ hr hD hH hk => ?_) fun Z' φ' v u H' nx' w' hZ hφ hr hH hq => ?_
          · obtain ⟨L2, seen2, rest2, pend2, σ2, G2, hI, hS⟩ := (h.hard_step ho hf hfa he hdst hZ hφ hr hD hH (Sub.refl _) (fun p hp hpp => .inl (hk.1 p hp hpp)) hk.2).norm
            have := any_of_inv fuel hI hS (by omega)
            exact wpAny_mono (fun e a w hl => hl.mono hZ hφ.to0 fun _ _ h => h) fuel this
          · refine ⟨Z', φ', .panic v, ⟨forget ops σ.fr, H', nx', σ.df⟩, hZ, hφ.to0, ⟨u, rfl, hr⟩, ⟨fun t => ?_, h.size, h.df.mono hZ hφ, hH⟩, hq⟩
            unfold forget
            rw [filter_get (fun t => ops.toList.any fun o => o.dst == some t)]
            split
            · exact .undef _
            · rename_i hno
              refine (h.frm t fun j hj oj hoj hd => hno ?_).mono hZ hφ
              exact List.any_eq_true.2 ⟨oj, by simpa using Array.mem_of_getElem? hoj, by simp [hd]⟩
        cases hg : o.guard with
        | none =>
          rw [hg] at hv
          have hw : Region.wanted o (yielded ops a.tmps) = true := by simp [Region.wanted, hg]
          rw [if_pos hw]
          exact .inl (exec hv)
        | some p =>
          obtain ⟨j, want⟩ := p
          rw [hg] at hv
          obtain ⟨b, hb, h1, h2⟩ := hv
          have hy := guard_yielded h.maskRel h.size (by rw [guardV_mask hg hclr]; exact hb)
          by_cases hbw : b = some want
          · have hw : Region.wanted o (yielded ops a.tmps) = true := by simp [Region.wanted, hg, hy, hbw]
            rw [if_pos hw]
            exact .inl (exec (h1 hbw))
          · have hw : ¬ Region.wanted o (yielded ops a.tmps) = true := by simp [Region.wanted, hg, hy, hbw]
            rw [if_neg hw]
            obtain ⟨L2, seen2, rest2, pend2, σ2, G2, hI, hS⟩ := (h.hard_step ho hf hfa he hdst (ZLe.refl _) (PLe.refl _) (rep_skip _ _) h.df h.heap h.subH (fun p hp hpp => .inr rfl) (h2 hbw)).norm
            exact any_of_inv fuel hI hS (by omega)

/-- **A region that draws its order**: walked in one order. -/
theorem swp_draw {σ : St} {id : Nat} (hm : P.follows .mixedOrders = true) (ord : List Nat) (hok : regOk ops (masks ops.toList []) ord [] = true) (h : VReg P N ops (masks ops.toList []) Q ord [] [] σ) : SWp P N n0 (.region id ops true) Q σ := by
  intro base w0 Z φ a w hs
  refine wp_region_any hm ?_
  have hI : Inv P N ops Q (Array.replicate ops.size false) [] [] ord [] σ σ.H [] base w0 Z φ a { w with drawn := w.drawn + 1 } :=
    ⟨fun i hi => by simp [Array.getD, hi], by simp, fun i hi => by simp at hi, fun i hi => by simp at hi, fun j i hj hjn => by simp [Array.getD, hjn] at hj, hok, fun l1 i l2 h => by simp at h, fun i hi => by simp at hi, fun i hi => by simp at hi,
      fun t _ => hs.fr t, hs.size, hs.df, hs.heap.drew, fun v hv => (by cases hv), fun v hv => (by cases hv), fun v hv => (by cases hv), fun c y hc => .inl hc, h⟩
  obtain ⟨L, seen, rest, pend, σ', G, hI', hS⟩ := hI.norm
  refine any_of_inv ops.size hI' hS ?_
  have := List.length_filter_le (fun j => !(Array.replicate ops.size false).getD j true) (List.range ops.size)
  simpa using this

end
end Go.Lom
