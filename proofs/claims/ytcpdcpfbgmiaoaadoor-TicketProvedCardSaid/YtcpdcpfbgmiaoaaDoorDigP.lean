import Derived.Test.YtcpdcpfbgmiaoaaDoorDigL
import Derived.Test.YtcpdcpfbgmiaoaaDoorOnceS
set_option linter.all false
/- Tickets: the law of digits, in plain terms: changed digits; what can be read. No conditions. -/
set_option maxRecDepth 100000
namespace Go.P3
open Go.Lom Go.Proofs Go
theorem getD_set {l : List Int} {i j : Nat} {c : Int} (h : i < l.length) : (l.set i c).getD j 0 = if j = i then c else l.getD j 0 := by
 simp only [List.getD_eq_getElem?_getD, List.getElem?_set]
 by_cases e : i = j
 ·subst e; simp [h]
 ·rw [if_neg e, if_neg (Ne.symm e)]
def G : List Nat -> Int -> Int
 | [], _ => 0
 | e :: es, x => (x.tmod 10) * 10 ^ e + G es (x.tdiv 10)
end Go.P3

/- Tickets: the law of digits: the contracts are kept. No conditions. -/
set_option maxRecDepth 100000
namespace Go.P3
open Go.Lom Go.Proofs Go
theorem ringI_bd {n m : Int} (h : 0 < m) : 0 <= ringI n m /\ ringI n m < m := by
 unfold ringI
 have h1 : -m < n.tmod m /\ n.tmod m < m := ⟨Int.lt_tmod_of_pos n h, Int.tmod_lt_of_pos n h⟩
 have h2 : 0 <= n.tmod m + m := by omega
 rw [Int.tmod_eq_emod_of_nonneg h2]
 exact ⟨Int.emod_nonneg _ (by omega), Int.emod_lt_of_pos _ h⟩
theorem h26F (n m : Int) (K : dens [I] -> Prop) (h0 : 0 < m) (h1 : m <= 99999999) (hK : K (ringI n m, ())) : xfn1 Tryd.prog {} 5 26 fcRing (n, m, ()) K := by
 rw [v26F]
 have h2 : -m < n.tmod m /\ n.tmod m < m := ⟨Int.lt_tmod_of_pos n h0, Int.tmod_lt_of_pos n h0⟩
 simp only [fork_iff, req_iff, decide_eq_true_eq, decide_eq_false_iff_not]
 refine ⟨fun h => absurd h (by omega), fun _ => ?_⟩
 unfold ringI at hK
 repeat' (first | exact hK | (refine And.intro ?_ ?_) | exact inR_i64.2 (by omega) | omega | (simp; omega))
theorem ok26 : FnOk Tryd.prog 26 fcRing := fn1_of (n := 5) (good2_nil _) fun (n, m, ()) K hx => h26F n m K hx.1.1 hx.1.2 hx.2
theorem okRingN : FnOk Tryd.prog 26 fcRingN := fun x K hx => ok26 x K ⟨hx.1, hx.2 _ (ringI_bd hx.1.1).1 (ringI_bd hx.1.1).2⟩
theorem okCodeN : FnOk Tryd.prog 14 fcCodeN := fun x K hx => ok14 x K (by
 show K (if 1 <= x.1 /\ x.1 <= 99999999 then codeS x.1 else [], if 1 <= x.1 /\ x.1 <= 99999999 then 0 else 7, ())
 rw [if_pos hx.1, if_pos hx.1]; exact hx.2 _ rfl)
end Go.P3
