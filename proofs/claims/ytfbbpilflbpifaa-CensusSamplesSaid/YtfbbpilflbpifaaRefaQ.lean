/- Audits: the reference keeps the contracts; CensusSamples and CensusLeast return true. No conditions. -/
import Derived.Test.YtfbbpilflbpifaaRefaP
import Derived.Test.YtfbbpilflbpifaaCountQ
set_option linter.constructorNameAsVariable false
set_option linter.unusedVariables false
set_option linter.unusedSimpArgs false
set_option maxRecDepth 100000
set_option maxHeartbeats 4000000
namespace Go.P10
open Go.Lom Go.Proofs Go

theorem h59L (c : Nat) (l : List Int) (a : Au) (o : List (List Int)) (n : Int) (Q : LQ) (h1 : okSt a.1) (h2 : l.length < a.1.length) (h3 : a.1.length - l.length ≤ c) (h4 : 0 ≤ n ∧ n ≤ a.1.getD l.length 0 + 1) (h5 : (o.length : Int) ≤ n * 9 ^ (a.1.length - l.length - 1))
    (hQ : ∀ r : List (List Int), r = o ++ gAs (a.1.getD l.length 0) (a.1.drop (l.length + 1)) l n → Q (.exit 0) (stS 2 (S [(5, .own 1 L)]) (r, ()))) :
    xloop2 Try.prog { nm := true, f := [(59, fc59 c)], f2 := [(26, fc26)] } 5 59 0 (lc59 c) (fun _ => some (S [(5, .own 1 L)], 2)) (fun (l, a, _, n, _) => (a.1.getD l.length 0 + 1 - n).toNat) (l, a, o, n, ()) Q := by
  rw [v59L]
  have hst := h1.2
  have hn := hst _ (getD_mem h2 0)
  have h41 := h1.1.2
  refine req_iff.2 ⟨decide_eq_true (by omega), fork_iff.2 ⟨fun hi => ?_, fun hi => ?_⟩⟩
  · have hi : n ≤ a.1.getD l.length 0 := of_decide_eq_true hi
    rw [gAs_step h4.1 (by omega)] at hQ
    refine ⟨by omega, fun r hr => ⟨rfl, ?_⟩⟩
    subst hr
    refine req_iff.2 ⟨decide_eq_true (by omega), req_iff.2 ⟨fitsM (by omega), fun ys hys => ⟨rfl, ?_⟩⟩⟩
    rw [seg_self] at hys
    have hyl : ys.length = r.length + 1 := by rw [hys]; simp
    have hsg : seg 0 (r.length + 1) ys = ys := by rw [← hyl]; exact seg_self ys
    rw [hsg, hyl]
    refine req_iff.2 ⟨decide_eq_true (by omega), ⟨h1, by omega, by omega⟩, fun g hg => ?_⟩
    have hgl := gA_len (st := a.1.drop (r.length + 1)) (l := ys) fun x hx => hst x (List.mem_of_mem_drop hx)
    rw [← hg, List.length_drop] at hgl
    have e9 : a.1.length - (r.length + 1) = a.1.length - r.length - 1 := by omega
    rw [e9] at hgl
    have h9 := pow9 (n := a.1.length - r.length - 1) (by omega)
    have h5' : o.length ≤ n.toNat * 9 ^ (a.1.length - r.length - 1) := by
      have : ((n.toNat * 9 ^ (a.1.length - r.length - 1) : Nat) : Int) = n * 9 ^ (a.1.length - r.length - 1) := by
        rw [Int.natCast_mul, Int.natCast_pow, show ((n.toNat : Nat) : Int) = n by omega]; rfl
      omega
    generalize hP : 9 ^ (a.1.length - r.length - 1) = P at *
    have hm : n.toNat * P ≤ 8 * 6561 := Nat.mul_le_mul (by omega) h9
    refine req_iff.2 ⟨decide_eq_true (by omega), req_iff.2 ⟨fitsM (by omega), fun zs hzs => req_iff.2 ⟨inR_i64.2 (by omega), ?_⟩⟩⟩
    rw [seg_self] at hzs
    have hzl : zs.length = o.length + g.length := by rw [hzs, List.length_append]
    have hsz : seg 0 (o.length + g.length) zs = zs := by rw [← hzl]; exact seg_self zs
    rw [hsz]
    refine req_iff.2 ⟨decide_eq_true (by omega), show (a.1.getD r.length 0 + 1 - (n + 1)).toNat < (a.1.getD r.length 0 + 1 - n).toNat by omega, ⟨h1, h2, h3, ⟨show (0 : Int) ≤ n + 1 by omega, show n + 1 ≤ a.1.getD r.length 0 + 1 by omega⟩, ?_⟩, fun q hq => hQ q ?_⟩
    · show (zs.length : Int) ≤ (n + 1) * 9 ^ (a.1.length - r.length - 1)
      have : (((n.toNat + 1) * P : Nat) : Int) = (n + 1) * 9 ^ (a.1.length - r.length - 1) := by
        rw [Int.natCast_mul, ← hP, Int.natCast_pow]
        congr 1; omega
      rw [← this, Nat.add_mul, Nat.one_mul]; omega
    · have hq : q = zs ++ gAs (a.1.getD r.length 0) (a.1.drop (r.length + 1)) r (n + 1) := hq
      rw [hq, hzs, hg, hys, List.append_assoc]
  · have hi : ¬ n ≤ a.1.getD l.length 0 := of_decide_eq_false hi
    rw [gAs_end h4.1 (by omega) (by omega), List.append_nil] at hQ
    rw [seg_self]
    exact req_iff.2 ⟨decide_eq_true (by omega), hQ o rfl⟩
theorem ok59L (c : Nat) (hc : FnOk Try.prog 59 (fc59 c)) : Lp2Ok Try.prog 59 0 (lc59 c) := lp2_of (n := 5) (ex := fun _ => some (S [(5, .own 1 L)], 2)) (m := fun (l, a, _, n, _) => (a.1.getD l.length 0 + 1 - n).toNat) (((good2_nilN _).addF2 ok26).addF hc) fun (l, a, o, n, ()) Q hx => by
  obtain ⟨⟨h1, h2, h3, h4, h5⟩, hQ⟩ := hx
  exact h59L c l a o n Q h1 h2 h3 h4 h5 hQ
theorem ok59 : ∀ c, FnOk Try.prog 59 (fc59 c)
  | 0 => fun x K hx => by
    obtain ⟨⟨_, _, h⟩, _⟩ := hx
    exact absurd h (Nat.not_lt_zero _)
  | c + 1 => fn1_of (n := 5) ((good2_nilN _).addL2 (ok59L c (ok59 c))) fun (a, l, ()) K hx => by
    obtain ⟨⟨h1, h2, h3⟩, hK⟩ := hx
    have h2 : l.length ≤ a.1.length := h2
    have h3 : a.1.length - l.length < c + 1 := h3
    have hK : ∀ r : List (List Int), r = gA (a.1.drop l.length) l → K (r, ()) := hK
    rw [v59F]
    refine fork_iff.2 ⟨fun e => ?_, fun e => ?_⟩
    · have e : (l.length : Int) = (a.1.length : Int) := by simpa using e
      refine hK _ ?_
      rw [List.drop_of_length_le (by omega)]; rfl
    · have e : ¬ (l.length : Int) = (a.1.length : Int) := by simpa using e
      have hlt : l.length < a.1.length := by omega
      have hn := h1.2 _ (getD_mem hlt 0)
      have hd : a.1.drop l.length = a.1.getD l.length 0 :: a.1.drop (l.length + 1) := by
        rw [List.drop_eq_getElem_cons hlt, List.getD_eq_getElem?_getD, List.getElem?_eq_getElem hlt]; rfl
      rw [hd, gA_gAs] at hK
      refine ⟨⟨h1, hlt, by omega, ⟨Int.le_refl 0, show (0 : Int) ≤ a.1.getD l.length 0 + 1 by omega⟩, ?_⟩, fun r hr => ?_⟩
      · show (0 : Int) ≤ 0 * _
        rw [Int.zero_mul]; exact Int.le_refl 0
      · rw [seg_self]
        exact req_iff.2 ⟨decide_eq_true (by omega), hK r (by rw [hr]; rfl)⟩
/-! losses -/
theorem h60L (a : Au) (ls o : List (List Int)) (i : Int) (Q : LQ) (h1 : okA a) (h2 : ∀ l ∈ ls, eachB a.1 l = true) (h3 : ls.length ≤ 10000) (h4 : 0 ≤ i ∧ i ≤ ls.length) (h5 : (o.length : Int) ≤ i) (hQ : ∀ r : List (List Int), r = o ++ (ls.drop i.toNat).filter (fun l => l.sum == a.2.2.1) → Q (.exit 0) (stS 2 (S [(4, .own 1 L)]) (r, ()))) :
    xloop2 Try.prog { nm := true, f := [(24, fc24w)] } 5 60 0 lc60 (fun _ => some (S [(4, .own 1 L)], 2)) (fun (_, ls, _, i, _) => mL ls i) (a, ls, o, i, ()) Q := by
  rw [v60L]
  have t0 : decide (0 + o.length ≤ o.length) = true := decide_eq_true (by omega)
  refine fork_iff.2 ⟨fun hi => ?_, fun hi => ?_⟩
  · have hi : i < ls.length := of_decide_eq_true hi
    have hin : decide (0 ≤ i ∧ i < (ls.length : Int)) = true := decide_eq_true ⟨h4.1, hi⟩
    rw [drop_step [] h4.1 hi] at hQ
    have hm := h2 _ (getD_mem (show i.toNat < ls.length by omega) [])
    have hml := (each_at hm).1
    have hal := h1.1.1.2
    generalize ls.getD i.toNat [] = l at *
    refine req_iff.2 ⟨hin, by omega, fun (s : Int) hs => ⟨rfl, ?_⟩⟩
    have hs : s = l.sum := hs (by omega) (each_inW h1.1.2 hm)
    refine fork_iff.2 ⟨fun c => ?_, fun c => ?_⟩
    · rw [hs] at c
      rw [List.filter_cons_of_pos (p := fun l : List Int => l.sum == a.2.2.1) c] at hQ
      refine req_iff.2 ⟨hin, req_iff.2 ⟨t0, req_iff.2 ⟨fitsM (by omega), fun ys hys => req_iff.2 ⟨inR_i64.2 (by omega), ?_⟩⟩⟩⟩
      rw [seg_self] at hys
      have hyl : ys.length = o.length + 1 := by rw [hys]; simp
      have hsg : seg 0 (o.length + 1) ys = ys := by rw [← hyl]; exact seg_self ys
      rw [hsg]
      refine req_iff.2 ⟨decide_eq_true (by omega), mL_lt hi, ⟨h1, h2, h3, ⟨show (0 : Int) ≤ i + 1 by omega, show i + 1 ≤ (ls.length : Int) by omega⟩, show (ys.length : Int) ≤ i + 1 by omega⟩, fun r hr => hQ r ?_⟩
      rw [hr, hys, List.append_assoc]; rfl
    · rw [hs] at c
      rw [List.filter_cons_of_neg (p := fun l : List Int => l.sum == a.2.2.1) (by rw [c]; decide)] at hQ
      rw [seg_self]
      exact req_iff.2 ⟨inR_i64.2 (by omega), req_iff.2 ⟨t0, mL_lt hi, ⟨h1, h2, h3, ⟨show (0 : Int) ≤ i + 1 by omega, show i + 1 ≤ (ls.length : Int) by omega⟩, show (o.length : Int) ≤ i + 1 by omega⟩, hQ⟩⟩
  · have hi : ¬ i < ls.length := of_decide_eq_false hi
    rw [drop_end hi] at hQ
    rw [seg_self]
    exact req_iff.2 ⟨t0, hQ o (by simp)⟩
theorem ok60L : Lp2Ok Try.prog 60 0 lc60 := lp2_of (n := 5) (ex := fun _ => some (S [(4, .own 1 L)], 2)) (m := fun (_, ls, _, i, _) => mL ls i) ((good2_nilN _).addF ok24w) fun (a, ls, o, i, ()) Q hx => by
  obtain ⟨⟨h1, h2, h3, h4, h5⟩, hQ⟩ := hx
  exact h60L a ls o i Q h1 h2 h3 h4 h5 hQ
theorem gA_each {a : Au} (h : okA a) : ∀ l ∈ gA a.1 [], eachB a.1 l = true := fun l hl => by
  obtain ⟨t, t1, t2⟩ := (mem_gA h.1.2).1 hl
  rw [t1, List.nil_append]; exact t2
theorem gA_len4 {a : Au} (h : okA a) : (gA a.1 []).length ≤ 10000 := by
  have h2 := gA_len (l := []) h.1.2
  have h3 := pow9 h.1.1.2
  omega
theorem ok60 : FnOk Try.prog 60 fc60 := fn1_of (n := 5) (((good2_nilN _).addL2 ok60L).addF (ok59 10)) fun (a, ()) K hx => by
  obtain ⟨h1, hK⟩ := hx
  have hK : ∀ r : List (List Int), r = lossL a → K (r, ()) := hK
  have h1 : okA a := h1
  have h4 := h1.1.1.2
  rw [v60F]
  refine ⟨⟨h1.1, Nat.zero_le _, by omega⟩, fun r hr => ?_⟩
  rw [List.drop_zero] at hr
  subst hr
  refine ⟨⟨h1, gA_each h1, gA_len4 h1, ⟨Int.le_refl 0, show (0 : Int) ≤ ((gA a.1 []).length : Int) by omega⟩, Int.le_refl 0⟩, fun q hq => ?_⟩
  rw [List.drop_zero, List.nil_append] at hq
  rw [seg_self]
  exact req_iff.2 ⟨decide_eq_true (by omega), hK q hq⟩
/-! the worst one -/
theorem h74L (sa : List Int) (ls : List (List Int)) (a : Au) (b : List Int) (i : Int) (Q : LQ) (h1 : okSt a.1) (h2 : eachB a.1 sa = true) (h3 : ∀ l ∈ ls, eachB a.1 l = true) (h4 : ls.length ≤ 10000) (h5 : eachB a.1 b = true) (h6 : 0 ≤ i ∧ i ≤ ls.length)
    (hQ : ∀ r : List Int, r = (ls.drop i.toNat).foldl (upB a.1 sa) b → Q (.exit 0) (stS 1 (S [(7, .v L)]) (r, ()))) :
    xloop2 Try.prog { nm := true, f := [(70, fc70)] } 5 74 0 lc74 (fun _ => some (S [(7, .v L)], 1)) (fun (_, ls, _, _, i, _) => mL ls i) (sa, ls, a, b, i, ()) Q := by
  rw [v74L]
  refine fork_iff.2 ⟨fun hi => ?_, fun hi => ?_⟩
  · have hi : i < ls.length := of_decide_eq_true hi
    have hin : decide (0 ≤ i ∧ i < (ls.length : Int)) = true := decide_eq_true ⟨h6.1, hi⟩
    have hm := h3 _ (getD_mem (show i.toNat < ls.length by omega) [])
    rw [drop_step [] h6.1 hi, List.foldl_cons] at hQ
    generalize ls.getD i.toNat [] = l at *
    refine req_iff.2 ⟨hin, ⟨h1, h2, hm⟩, fun p hp => ⟨rfl, ⟨h1, h2, h5⟩, fun q hq => fork_iff.2 ⟨fun c => ?_, fun c => ?_⟩⟩⟩
    · have c : p > q := of_decide_eq_true c
      rw [hp, hq] at c
      rw [show upB a.1 sa b l = l by rw [upB, if_pos c]] at hQ
      exact req_iff.2 ⟨hin, req_iff.2 ⟨inR_i64.2 (by omega), mL_lt hi, ⟨h1, h2, h3, h4, hm, show (0 : Int) ≤ i + 1 by omega, show i + 1 ≤ (ls.length : Int) by omega⟩, hQ⟩⟩
    · have c : ¬ p > q := of_decide_eq_false c
      rw [hp, hq] at c
      rw [show upB a.1 sa b l = b by rw [upB, if_neg c]] at hQ
      exact req_iff.2 ⟨inR_i64.2 (by omega), mL_lt hi, ⟨h1, h2, h3, h4, h5, show (0 : Int) ≤ i + 1 by omega, show i + 1 ≤ (ls.length : Int) by omega⟩, hQ⟩
  · have hi : ¬ i < ls.length := of_decide_eq_false hi
    rw [drop_end hi] at hQ
    exact hQ b rfl
theorem ok74L : Lp2Ok Try.prog 74 0 lc74 := lp2_of (n := 5) (ex := fun _ => some (S [(7, .v L)], 1)) (m := fun (_, ls, _, _, i, _) => mL ls i) ((good2_nilN _).addF ok70) fun (sa, ls, a, b, i, ()) Q hx => by
  obtain ⟨⟨h1, h2, h3, h4, h5, h6⟩, hQ⟩ := hx
  exact h74L sa ls a b i Q h1 h2 h3 h4 h5 h6 hQ
theorem ok74 : FnOk Try.prog 74 fc74 := fn1_of (n := 5) ((good2_nilN _).addL2 ok74L) fun (a, sa, ls, ()) K hx => by
  obtain ⟨⟨h1, h2, h3, h4, h5⟩, hK⟩ := hx
  have hK : ∀ r : List Int, r = worstB a.1 sa ls → K (r, ()) := hK
  have h4 : 1 ≤ ls.length := h4
  rw [v74F]
  refine req_iff.2 ⟨decide_eq_true (by omega), ⟨h1, h2, h3, h5, h3 _ (getD_mem (show 0 < ls.length by omega) []), Int.le_refl 0, show (0 : Int) ≤ (ls.length : Int) by omega⟩, fun r hr => hK r ?_⟩
  rw [hr, List.drop_zero, worstB]
  cases ls <;> rfl
theorem worstB_each {a : Au} {sa : List Int} {ls : List (List Int)} (h : okLs a ls) : eachB a.1 (worstB a.1 sa ls) = true := by
  have gen : ∀ (L : List (List Int)) (b : List Int), (∀ l ∈ L, eachB a.1 l = true) → eachB a.1 b = true → eachB a.1 (L.foldl (upB a.1 sa) b) = true := fun L => by
    induction L with
    | nil => intro b _ hb; exact hb
    | cons l L ih =>
      intro b hL hb
      refine ih _ (fun x hx => hL x (List.mem_cons_of_mem _ hx)) ?_
      unfold upB
      split
      · exact hL l List.mem_cons_self
      · exact hb
  refine gen ls _ h.1 ?_
  cases ls with
  | nil => have := h.2.1; simp at this
  | cons l L => exact h.1 l List.mem_cons_self
theorem h62 (a : Au) (sa : List Int) (ls : List (List Int)) (K : dens [.b] → Prop) (h1 : okA a) (h2 : eachB a.1 sa = true) (h3 : okLs a ls) (hK : ∀ r : Bool, r = findsB a sa ls → K (r, ())) : xfn1 Try.prog { nm := true, f := [(70, fc70), (74, fc74)] } 5 62 fc62 (a, sa, ls, ()) K := by
  rw [v62F]
  have hl := (each_at h2).1
  have h4 := h1.1.1.2
  have hs := h1.2.2.2.2
  have hz := each_rep h1.1.2 hl
  have h70 := pow70n h4
  refine req_iff.2 ⟨mk_ok (by omega), req_iff.2 ⟨inR_i64.2 (by omega), ⟨h1.1, h2, h3⟩, fun b hb => ⟨rfl, rfl, rfl, rfl, ⟨h1.1, h2, by rw [hb]; exact worstB_each h3⟩, fun p hp => ⟨rfl, rfl, rfl, ?_⟩⟩⟩⟩
  have bp := prodM_bd (st := a.1) sa b
  rw [← hp] at bp
  refine req_iff.2 ⟨inR_i64.2 (by omega), ⟨h1.1, h2, hz⟩, fun q hq => ⟨rfl, ?_⟩⟩
  rw [prodM_none hl.symm rfl] at hq
  have bq := allM_bd (st := a.1) sa
  rw [← hq] at bq
  have hb2 := mul_bd bq.1 (Int.le_trans bq.2 h70) (show 0 ≤ 1000 - a.2.2.2 by omega) (show 1000 - a.2.2.2 ≤ 1000 by omega)
  refine req_iff.2 ⟨inR_i64.2 (by omega), hK _ ?_⟩
  rw [findsB, hp, hq, hb]
theorem ok62 : FnOk Try.prog 62 fc62 := fn1_of (n := 5) (((good2_nilN _).addF ok74).addF ok70) fun (a, sa, ls, ()) K hx => h62 a sa ls K hx.1.1 hx.1.2.1 hx.1.2.2 hx.2
theorem ok30 : FnOk Try.prog 30 fc23 := fn1_of (n := 5) (((((good2_nilN _).addF ok74).addF ok70).addF ok60).addF ok68) fun (a, sa, ()) K hx => by
  obtain ⟨⟨hb, h2⟩, hK⟩ := hx
  have hK : ∀ l n m e, (l, n, m, e) = worstV a sa → K (l, n, m, e, ()) := hK
  rw [v30F]
  refine ⟨⟨hb, h2⟩, fun e he => asked he (fun h he => hK _ _ _ _ (by rw [worstV, if_neg h, he])) (fun h g he => hK _ _ _ _ (by rw [worstV, if_pos h, if_neg (by rw [g]; simp), he])) fun h g => ⟨h, fun r hr => ⟨rfl, ?_⟩⟩⟩
  subst hr
  have hlo := loss_ok h
  have hl := (each_at g).1
  have h4 := h.1.1.2
  have hz := each_rep h.1.2 hl
  refine ⟨⟨h.1, g, hlo⟩, fun w hw => req_iff.2 ⟨mk_ok (by omega), ⟨h.1, g, by rw [hw]; exact worstB_each hlo⟩, fun p hp => ⟨rfl, rfl, ⟨h.1, g, hz⟩, fun q hq => hK _ _ _ _ ?_⟩⟩⟩
  rw [prodM_none hl.symm rfl] at hq
  rw [worstV, if_pos h, if_pos g, worst_eq h, hp, hq, hw]
theorem ok32 : FnOk Try.prog 32 fc31 := fn1_of (n := 5) ((((good2_nilN _).addF ok62).addF ok60).addF ok68) fun (a, sa, ()) K hx => by
  obtain ⟨⟨hb, h2⟩, hK⟩ := hx
  have hK : ∀ b e, (b, e) = findsV a sa → K (b, e, ()) := hK
  rw [v32F]
  refine ⟨⟨hb, h2⟩, fun e he => asked he (fun h he => hK _ _ (by rw [findsV, if_neg h, he])) (fun h g he => hK _ _ (by rw [findsV, if_pos h, if_neg (by rw [g]; simp), he])) fun h g => ⟨h, fun r hr => ⟨rfl, ?_⟩⟩⟩
  subst hr
  refine ⟨⟨h, g, loss_ok h⟩, fun q hq => hK _ _ ?_⟩
  rw [findsV, if_pos h, if_pos g, hq, finds_eq h]
/-! the cheapest one -/
theorem h17L (a : Au) (b : List Int) (i : Int) (Q : LQ) (h1 : okA a) (h2 : -1 ≤ i ∧ i < (gA a.1 []).length) (h3 : LeI a ((gA a.1 []).drop (i + 1).toNat) b) (hQ : ∀ s, LeI a (gA a.1 []) s → Q (.exit 0) (stS 1 (S [(1, .box 0 (.v TA)), (8, .v L)]) (a, s, ()))) :
    xloop2 Try.prog { nm := true, f := [(61, fc61), (62, fc62)] } 5 17 0 lc17 (fun _ => some (S [(1, .box 0 (.v TA)), (8, .v L)], 1)) (fun (_, _, _, _, i, _) => (i + 1).toNat) (a, gA a.1 [], lossL a, b, i, ()) Q := by
  rw [v17L]
  have hE := gA_each h1
  have hS := gA_sorted (l := []) h1.1.2
  have hL4 := gA_len4 h1
  generalize hG : gA a.1 [] = G at *
  refine fork_iff.2 ⟨fun hi => ?_, fun hi => ?_⟩
  · have hi : i ≥ 0 := of_decide_eq_true hi
    have hin : decide (0 ≤ i ∧ i < (G.length : Int)) = true := decide_eq_true ⟨hi, h2.2⟩
    have hm := hE _ (getD_mem (show i.toNat < G.length by omega) [])
    have hd := drop_step [] hi h2.2
    have hsd : (G.drop i.toNat).Pairwise fun x y => aheadI x y = true := List.Pairwise.sublist (List.drop_sublist ..) hS
    rw [hd, List.pairwise_cons] at hsd
    have nx : ∀ s, LeI a (G.drop i.toNat) s → req (inR .i64 (i - 1)) ((i - 1 + 1).toNat < (i + 1).toNat ∧ lc17.spec (a, G, lossL a, s, i - 1, ()) Q) := fun s hs =>
      req_iff.2 ⟨inR_i64.2 (by omega), by omega, ⟨h1, hG.symm, rfl, ⟨show (-1 : Int) ≤ i - 1 by omega, show i - 1 < (G.length : Int) by omega⟩, by
        show LeI a (G.drop (i - 1 + 1).toNat) s
        rw [show i - 1 + 1 = i by omega]; exact hs⟩, fun s hs => hQ s (by rw [← hG]; exact hs)⟩
    generalize hl : G.getD i.toNat [] = l at *
    have stay : (findsF a l = true → costF b a.2.1 < costF l a.2.1) → LeI a (G.drop i.toNat) b := fun h => by
      refine ⟨h3.each, h3.finds, fun m hm hf => ?_⟩
      rw [hd] at hm
      rcases List.mem_cons.1 hm with rfl | hm
      · exact .inl (h hf)
      · exact h3.best m hm hf
    refine req_iff.2 ⟨hin, ⟨h1, hm⟩, fun p hp => ⟨rfl, ⟨h1, h3.each⟩, fun q hq => fork_iff.2 ⟨fun c => ?_, fun c => ?_⟩⟩⟩
    · have c : p ≤ q := of_decide_eq_true c
      refine req_iff.2 ⟨hin, ⟨h1, hm, loss_ok h1⟩, fun r hr => ?_⟩
      rw [finds_eq h1] at hr
      refine fork_iff.2 ⟨fun d => req_iff.2 ⟨hin, nx l ⟨hm, by rw [← hr, d], fun m hm2 hf => ?_⟩⟩, fun d => nx b (stay fun hf => by rw [← hr, d] at hf; cases hf)⟩
      rw [hd] at hm2
      rcases List.mem_cons.1 hm2 with rfl | hm2
      · exact .inr ⟨rfl, .inl rfl⟩
      · have hb := h3.best m hm2 hf
        have ha := hsd.1 m hm2
        by_cases e : costF l a.2.1 = costF m a.2.1
        · exact .inr ⟨e, .inr ha⟩
        · left; omega
    · have c : ¬ p ≤ q := of_decide_eq_false c
      exact nx b (stay fun _ => by omega)
  · have hi : ¬ i ≥ 0 := of_decide_eq_false hi
    rw [show (i + 1).toNat = 0 by omega, List.drop_zero] at h3
    exact hQ b h3
theorem ok17L : Lp2Ok Try.prog 17 0 lc17 := lp2_of (n := 5) (ex := fun _ => some (S [(1, .box 0 (.v TA)), (8, .v L)], 1)) (m := fun (_, _, _, _, i, _) => (i + 1).toNat) (((good2_nilN _).addF ok62).addF ok61) fun (a, ls, lo, b, i, ()) Q hx => by
  obtain ⟨⟨h1, hl, hlo, h2, h3⟩, hQ⟩ := hx
  have hl : ls = gA a.1 [] := hl
  have hlo : lo = lossL a := hlo
  subst hl hlo
  exact h17L a b i Q h1 h2 h3 hQ
theorem ok17 : FnOk Try.prog 17 fcLeast := fn1_of (n := 5) ((((((good2_nilN _).addL2 ok17L).addF2 ok26).addF ok61).addF ok60).addF (ok59 10) |>.addF ok29) fun (a, ()) K hx => by
  obtain ⟨hb, hK⟩ := hx
  have hK : ∀ s c e, (s, c, e) = leastV a → K (s, c, e, ()) := hK
  rw [v17F]
  refine ⟨hb, fun e e1 e2 => chk e1 e2 (fun h he => hK _ _ _ (by rw [leastV, if_neg h]; exact congrArg (fun x => (([] : List Int), ((0 : Int), x))) he)) fun h => ?_⟩
  have h4 := h.1.1.2
  refine ⟨⟨h.1, Nat.zero_le _, by omega⟩, fun r hr => ⟨rfl, h, fun r1 hr1 => ?_⟩⟩
  rw [List.drop_zero] at hr
  subst hr hr1
  have hl := gA_len4 h
  refine req_iff.2 ⟨inR_i64.2 (by omega), ⟨h, rfl, rfl, ⟨show (-1 : Int) ≤ ((gA a.1 []).length : Int) - 1 by omega, show ((gA a.1 []).length : Int) - 1 < ((gA a.1 []).length : Int) by omega⟩, ?_⟩, fun s hs => ?_⟩
  · refine ⟨each_stock h.1.2, finds_stock h, fun l hl => ?_⟩
    rw [show (((gA a.1 []).length : Int) - 1 + 1).toNat = (gA a.1 []).length by omega, List.drop_length] at hl
    simp at hl
  · have hsl := (each_at hs.each).1
    refine ⟨by omega, fun q hq => ⟨rfl, ⟨h, hs.each⟩, fun c hc => ?_⟩⟩
    subst hq
    rw [seg_self]
    refine req_iff.2 ⟨decide_eq_true (by omega), hK _ _ _ ?_⟩
    rw [least_of h hs, hc]
/-! the statements -/
theorem same_step2 {α : Type} [DecidableEq α] {x y : α} {P Q : Prop} [BEq α] [LawfulBEq α] (h : x = y) (hQ : Q) : fork (x != y) P Q := fork_iff.2 ⟨fun c => by rw [h] at c; simp at c, fun _ => hQ⟩
theorem ok5 : FnOk Try.prog 5 fc5 := fn1_of (n := 5) (((((((((((good2_nilN _).addF okWorks).addF ok18).addF ok32).addF ok31).addF ok30).addF ok23).addF ok29).addF ok28).addF ok27).addF ok20) fun (a, sa, lo, ()) K hx => by
  obtain ⟨⟨h1, h2, h3⟩, hK⟩ := hx
  have hK : K (true, ()) := hK
  rw [v5F]
  refine ⟨⟨h1, h2, h3⟩, fun n m e hm => ⟨⟨h1, h2, h3⟩, fun n1 m1 e1 hm1 => ?_⟩⟩
  rw [← hm] at hm1
  injection hm1 with g1 g2
  injection g2 with g2 g3
  refine same_step2 g1.symm (same_step2 g2.symm (same_step2 g3.symm ⟨h1, fun c c1 c2 => ⟨rfl, h1, fun d d1 d2 => same_step2 ?_ ⟨⟨h1, h2⟩, fun l n m e hw => ⟨⟨h1, h2⟩, fun l1 n1 m1 e1 hw1 => ?_⟩⟩⟩⟩))
  · by_cases h : okA a
    · rw [c1 h, d1 h]
    · rw [c2 h, d2 h]
  · rw [← hw] at hw1
    injection hw1 with g1 g2
    injection g2 with g2 g3
    injection g3 with g3 g4
    have hll : l.length ≤ 9223372036854775807 := by
      unfold worstV at hw
      split at hw
      · rename_i hA
        split at hw
        · rename_i hE
          injection hw with w1 _
          have := (each_at (worst_spec hA hE).each).1
          have := hA.1.1.2
          rw [w1]; omega
        · injection hw with w1 _
          rw [w1]; decide
      · injection hw with w1 _
        rw [w1]; decide
    refine ⟨hll, fun r hr => fork_not (fun c => ?_) fun _ => same_step2 g2.symm (same_step2 g3.symm (same_step2 g4.symm ⟨⟨h1, h2⟩, fun b e hf => ⟨⟨h1, h2⟩, fun b1 e1 hf1 => ?_⟩⟩))⟩
    · rw [c, g1] at hr; simp at hr
    · rw [← hf] at hf1
      injection hf1 with g1 g2
      subst g1 g2
      exact fork_iff.2 ⟨fun _ => fork_iff.2 ⟨fun _ => hK, fun c => by simp at c⟩, fun c => by simp at c⟩
theorem ok3 : FnOk Try.prog 3 fc3 := fn1_of (n := 5) (((((good2_nilN _).addF okWorks).addF ok18).addF ok17).addF okLeast) fun (a, ()) K hx => by
  obtain ⟨h1, hK⟩ := hx
  have hK : K (true, ()) := hK
  rw [v3F]
  refine ⟨h1, fun s c e hs => ⟨h1, fun s1 c1 e1 hs1 => ?_⟩⟩
  rw [← hs] at hs1
  injection hs1 with g1 g2
  injection g2 with g2 g3
  subst g1 g2 g3
  have hll : s1.length ≤ 9223372036854775807 := by
    unfold leastV at hs
    split at hs
    · rename_i hA
      have := (each_at (least_spec hA).each).1
      have := hA.1.1.2
      injection hs with w1 _
      rw [w1]; omega
    · injection hs with w1 _
      rw [w1]; decide
  refine ⟨hll, fun r hr => fork_iff.2 ⟨fun _ => fork_iff.2 ⟨fun _ => fork_iff.2 ⟨fun _ => hK, fun c => by simp at c⟩, fun c => by simp at c⟩, fun c => ?_⟩⟩
  rw [c] at hr; simp at hr
end Go.P10
