import Derived.Test.YtcpdcpfbgmiaoaaDoorCodeS
import Derived.Test.YtcpdcpfbgmiaoaaDoorReadS
import Derived.Test.YtcpdcpfbgmiaoaaDoorTickP
import Derived.Test.YtcpdcpfbgmiaoaaDoorFitP
set_option linter.all false
/- Tickets: codes by the reference: the contracts are kept. No conditions. -/
set_option maxRecDepth 100000
namespace Go.P3
open Go.Lom Go.Proofs Go
theorem textT_len : ∀ (k : Nat) (n : Int), (textT k n).length <= k
 | 0, _ => Nat.le_refl _
 | k + 1, n => by
  simp only [textT]
  split
  ·have := textT_len k (n.tdiv 10); simp; omega
  ·simp
def dig : Nat -> Int -> List UInt8
 | 0, _ => []
 | k + 1, n => dig k (n.tdiv 10) ++ [byteI (48 + n.tmod 10)]
theorem dig_len : ∀ (k : Nat) (n : Int), (dig k n).length = k
 | 0, _ => rfl
 | k + 1, n => by simp [dig, dig_len k]
theorem codeS_dig (n : Int) : codeS n = dig 10 (fullI n) := by
 unfold codeS codeI
 generalize fullI n = F
 kernel_rfl
end Go.P3

/- Tickets: the best half of both, and the laws of halves. No conditions. -/
set_option maxRecDepth 100000
namespace Go.P3
open Go.Lom Go.Proofs Go
def Inv (F : Int -> Int) (i : Int) (x : Tri) : Prop :=
 (x = (0, 0, 0) /\ ∀ k, 0 <= k -> k < i -> F k = -1) \/
 (4 <= x.1 /\ 0 <= x.2.1 /\ x.2.1 < i /\ F x.2.1 = x.1 /\ 1 <= x.2.2 /\ (∀ k, 0 <= k -> k < i -> F k <= x.1) /\ (x.2.2 = 1 -> ∀ k, 0 <= k -> k < i -> k ≠ x.2.1 -> F k < x.1) /\ (x.2.2 ≠ 1 -> ∃ k, 0 <= k /\ k < i /\ k ≠ x.2.1 /\ F k = x.1))
end Go.P3

/- Tickets: what can be read of a code by the reference, and the law of codes: the contracts are kept. No conditions. -/
set_option maxRecDepth 100000
namespace Go.P3
open Go.Lom Go.Proofs Go
theorem h19A (s : List UInt8) (c i : Int) (Q : LQ) : s19a s c i Q -> xloop2 Tryd.prog {} 5 19 0 lc19a ex19a (fun (s, _, i, _) => s.length - i.toNat) (s, c, i, ()) Q := by
 intro ⟨⟨hl, h0, h1, h2, h3⟩, hN, hS⟩
 rw [v19A]
 have hc : ((s.getD i.toNat 0).toNat : Int) = cI s i := rfl
 rw [hc]
 simp only [fork_iff, req_iff, decide_eq_true_eq, decide_eq_false_iff_not, beq_iff_eq]
 refine ⟨fun hi => ⟨⟨h0, hi⟩, fun h63 => ?_, fun h63 => ?_⟩, fun hi => ?_⟩
 ·have ek : s.length - i.toNat = (s.length - (i + 1).toNat) + 1 := by omega
  rw [ek] at hN hS
  simp only [cntK] at hN hS
  rw [if_pos h63] at hN
  have hS : ∀ r, cntK s (s.length - (i + 1).toNat) (i + 1) (c + 1) = some r -> Q (.exit 0) (stS 0 sh19ae (s, r, ())) := fun r hr => hS r (by rw [if_pos h63]; exact hr)
  exact ⟨inR_i64.2 (by omega), inR_i64.2 (by omega), by omega, ⟨hl, by omega, by omega, by omega, by omega⟩, hN, hS⟩
 ·have h63 : ¬ cI s i = 63 := by simpa using h63
  have ek : s.length - i.toNat = (s.length - (i + 1).toNat) + 1 := by omega
  rw [ek] at hN hS
  simp only [cntK] at hN hS
  rw [if_neg h63] at hN
  refine ⟨⟨h0, hi⟩, fun hl => hN (if_pos (.inl hl)), fun hl2 => ⟨⟨h0, hi⟩, fun hg => hN (if_pos (.inr hg)), fun hg => ?_⟩⟩
  have hn : ¬ (cI s i < 48 \/ cI s i > 57) := fun h => h.elim hl2 hg
  rw [if_neg hn] at hN
  have hS : ∀ r, cntK s (s.length - (i + 1).toNat) (i + 1) c = some r -> Q (.exit 0) (stS 0 sh19ae (s, r, ())) := fun r hr => hS r (by rw [if_neg h63, if_neg hn]; exact hr)
  exact ⟨inR_i64.2 (by omega), by omega, ⟨hl, by omega, by omega, by omega, by omega⟩, hN, hS⟩
 ·have e : s.length - i.toNat = 0 := by omega
  rw [e] at hS
  exact hS c rfl
theorem byI_getD (s : List UInt8) (i : Nat) : (byI s).getD i 0 = ((s.getD i 0).toNat : Int) := by
 unfold byI
 simp only [List.getD_eq_getElem?_getD, List.getElem?_map]
 cases s[i]? <;> rfl
theorem eqK_self (a : List Int) : ∀ (k : Nat) (i : Int), eqK a a k i true = true
 | 0, _ => rfl
 | k + 1, i => by simp only [eqK, if_true, beq_self_eq_true]; exact eqK_self a k (i + 1)
theorem h20L (a b : List Int) (r : Bool) (i : Int) (Q : LQ) : s20 a b r i Q -> xloop2 Tryd.prog {} 5 20 0 lc20 (ex1 sh20e) (fun (a, _, _, i, _) => a.length - i.toNat) (a, b, r, i, ()) Q := by
 intro ⟨⟨hl, hr, h0, h1⟩, hQ⟩
 rw [v20L]
 simp only [fork_iff, req_iff, decide_eq_true_eq, decide_eq_false_iff_not]
 refine ⟨fun ht => ⟨fun hi => ?_, fun hi => ?_⟩, fun hf => ?_⟩
 ·have := hr ht
  refine ⟨⟨h0, hi⟩, ⟨h0, by omega⟩, inR_i64.2 (by omega), by omega, ⟨hl, fun _ => this, by omega, by omega⟩, ?_⟩
  rw [show a.length - i.toNat = (a.length - (i + 1).toNat) + 1 by omega] at hQ
  simp only [eqK] at hQ
  rw [if_pos ht] at hQ
  exact hQ
 ·rw [show a.length - i.toNat = 0 by omega] at hQ
  exact hQ
 ·cases hk : a.length - i.toNat with
  | zero => rw [hk] at hQ; exact hQ
  | succ k =>
   rw [hk] at hQ
   simp only [eqK] at hQ
   rw [if_neg (by rw [hf]; simp)] at hQ
   exact hQ
theorem ok20L : Lp2Ok Tryd.prog 20 0 lc20 := lp2_of (n := 5) (ex := ex1 sh20e) (m := fun (a, _, _, i, _) => a.length - i.toNat) (good2_nil _) fun (a, b, r, i, ()) Q hx => h20L a b r i Q hx
theorem h20F (a b : List Int) (K : dens [.b] -> Prop) (hab : a = b) (hl : a.length <= 100000) (hK : K (true, ())) : xfn1 Tryd.prog { l2 := [(20, 0, lc20)] } 5 20 fcSame (a, b, ()) K := by
 subst hab
 rw [v20F]
 refine ⟨⟨hl, fun _ => rfl, by omega, by omega⟩, ?_⟩
 rw [show ((a.length : Int) == (a.length : Int)) = true by simp, eqK_self]
 exact hK
theorem ok20 : FnOk Tryd.prog 20 fcSame := fn1_of (n := 5) ((good2_nil _).addL2 ok20L) fun (a, b, ()) K hx => h20F a b K hx.1.1 hx.1.2 hx.2
end Go.P3
