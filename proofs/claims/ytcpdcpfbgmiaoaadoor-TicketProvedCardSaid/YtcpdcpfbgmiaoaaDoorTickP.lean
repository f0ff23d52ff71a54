/- Tickets: codes keep their contracts. No conditions. -/
import Derived.Test.YtcpdcpfbgmiaoaaDoorTickS
set_option linter.all false
set_option maxRecDepth 100000
namespace Go.P3
open Go.Lom Go.Proofs Go
theorem h28F (a n b : Int) (K : dens [.b] -> Prop) : sFrom a n b (fun r => K (r, ())) -> xfn1 Tryd.prog {} 5 28 fcFrom (a, n, b, ()) K := by
 intro h
 unfold sFrom at h
 rw [v28F]
 simp only [fork_iff, decide_eq_true_eq, decide_eq_false_iff_not]
 refine ⟨fun h1 => ?_, fun h1 => ?_⟩
 ·rw [show decide (a <= n /\ n <= b) = decide (n <= b) from by simp [h1]] at h; exact h
 ·rw [show decide (a <= n /\ n <= b) = false from by simp [h1]] at h; exact h
theorem ok28 : FnOk Tryd.prog 28 fcFrom := fn1_of (n := 5) (good2_nil _) fun (a, n, b, ()) K hx => h28F a n b K hx
theorem h49F (n a b : Int) (K : dens [.b] -> Prop) : sFrom a n b (fun r => K (r, ())) -> xfn1 Tryd.prog {} 5 49 fcWith (n, a, b, ()) K := by
 intro h
 unfold sFrom at h
 rw [v49F]
 simp only [fork_iff, decide_eq_true_eq, decide_eq_false_iff_not]
 refine ⟨fun h1 => ?_, fun h1 => ?_⟩
 ·rw [show decide (a <= n /\ n <= b) = decide (n <= b) from by simp [show a <= n from h1]] at h; exact h
 ·rw [show decide (a <= n /\ n <= b) = false from by simp [show ¬ a <= n from h1]] at h; exact h
theorem ok49 : FnOk Tryd.prog 49 fcWith := fn1_of (n := 5) (good2_nil _) fun (n, a, b, ()) K hx => h49F n a b K hx
theorem tm10 {n : Int} (h : 0 <= n) : n.tmod 10 = n % 10 /\ n.tdiv 10 = n / 10 := ⟨Int.tmod_eq_emod_of_nonneg h, Int.tdiv_eq_ediv_of_nonneg h⟩
theorem seg_self {α : Type} (l : List α) : seg 0 l.length l = l := seg_all l
theorem h85A (w : Wa) (n m i : Int) (Q : LQ) : s85A w n m i Q -> xloop2 Tryd.prog {} 5 85 0 lc85A (fun _ => some (sh85Ae, 6)) (fun (_, _, m, i, _) => (m - i).toNat) (w, n, m, i, ()) Q := by
 obtain ⟨⟨bs, ⟨⟩⟩, rg⟩ := w
 intro ⟨⟨hrg, hlen, hm, h0, h1, h2, h3⟩, hQ⟩
 have hrg : rg = rngOf Tryd.prog 50 0 := hrg
 have hlen : bs.length = 10 := hlen
 subst hrg hm
 have h0 : (0 : Int) <= i := h0
 have h1 : i <= (10 : Int) := h1
 have h2 : (0 : Int) <= n := h2
 have h3 : n <= (9223372036854775807 : Int) := h3
 obtain ⟨e1, e2⟩ := tm10 h2
 have hQ : Q (.exit 0) (stS 6 sh85Ae (mkA (rngOf Tryd.prog 50 0) (putD (10 - i).toNat n i bs), restD (10 - i).toNat n, ())) := hQ
 show xloop2 Tryd.prog {} 5 85 0 lc85A (fun _ => some (sh85Ae, 6)) (fun (_, _, m, i, _) => (m - i).toNat) (((bs, ()), rngOf Tryd.prog 50 0), n, 10, i, ()) Q
 rw [v85A]
 simp only [fork_iff, req_iff, decide_eq_true_eq, decide_eq_false_iff_not, Nat.zero_add, Nat.add_zero, List.length_set]
 rw [seg_self bs]
 refine ⟨fun hi => ?_, fun hi => ⟨Nat.le_refl _, ?_⟩⟩
 ·refine ⟨inR_i64.2 (by omega), inR_i64.2 (by omega), inR_iff.2 ⟨?_, ?_⟩, ⟨by omega, by omega⟩, by omega, inR_i64.2 (by omega), inR_i64.2 (by omega), Nat.le_refl _, by omega, ?_⟩
  ·show (0 : Int) <= _; omega
  ·show _ <= (255 : Int); omega
  ·have e : seg 0 bs.length (bs.set (9 - i).toNat (48 + n.tmod 10)) = bs.set (9 - i).toNat (48 + n.tmod 10) := by
    have := seg_self (bs.set (9 - i).toNat (48 + n.tmod 10)); rw [List.length_set] at this; exact this
   rw [e]
   refine (show s85A (mkA (rngOf Tryd.prog 50 0) (bs.set (9 - i).toNat (48 + n.tmod 10))) (n.tdiv 10) 10 (i + 1) Q from ⟨⟨rfl, by simp [hlen], rfl, by omega, by omega, by omega, by omega⟩, ?_⟩)
   rw [show (10 - i).toNat = (10 - (i + 1)).toNat + 1 by omega] at hQ
   exact hQ
 ·have e : (10 - i).toNat = 0 := by omega
  rw [e] at hQ; exact hQ
theorem ok85A : Lp2Ok Tryd.prog 85 0 lc85A := lp2_of (n := 5) (ex := fun _ => some (sh85Ae, 6)) (m := fun (_, _, m, i, _) => (m - i).toNat) (good2_nil _) fun (w, n, m, i, ()) Q hx => h85A w n m i Q hx
theorem h85B (w : Wa) (m n : Int) (K : post85A.den -> Prop) : fc85A.spec (w, m, n, ()) K -> xfn2 Tryd.prog { l2 := [(85, 0, lc85A)] } 5 85 fc85A (w, m, n, ()) K := by
 obtain ⟨⟨bs, ⟨⟩⟩, rg⟩ := w
 intro ⟨⟨hrg, hlen, hm, h2, h3⟩, hK⟩
 have hrg : rg = rngOf Tryd.prog 50 0 := hrg
 have hlen : bs.length = 10 := hlen
 subst hrg hm
 have hK : K (mkA (rngOf Tryd.prog 50 0) (putD 10 n 0 bs), (), (), ()) := hK
 show xfn2 Tryd.prog { l2 := [(85, 0, lc85A)] } 5 85 fc85A (((bs, ()), rngOf Tryd.prog 50 0), 10, n, ()) K
 rw [v85B]
 rw [seg_self bs]
 simp only [fork_iff, req_iff, decide_eq_true_eq, decide_eq_false_iff_not, Nat.zero_add]
 rw [seg_self]
 exact ⟨Nat.le_refl _, ⟨trivial, hlen, trivial, by omega, by omega, h2, h3⟩, Nat.le_refl _, hK⟩
theorem ok85F : F2Ok Tryd.prog 85 fc85A := fn2_of (n := 5) ((good2_nil _).addL2 ok85A) fun (w, m, n, ()) K hx => h85B w m n K hx
theorem h50F (n : Int) (K : dens [.s] -> Prop) : (0 <= n /\ n <= 99999999) /\ K (codeS n, ()) -> xfn1 Tryd.prog { f2 := [(85, fc85A)] } 5 50 fcCodeI (n, ()) K := by
 intro ⟨⟨h0, h1⟩, hK⟩
 rw [v50F]
 have e : (100 * n).tmod 97 = (100 * n) % 97 := Int.tmod_eq_emod_of_nonneg (by omega)
 simp only [req_iff]
 have e1 : seg 0 10 (List.replicate 10 (0 : Int)) = List.replicate 10 0 := rfl
 rw [e1, seg_self]
 exact ⟨inR_i64.2 (by omega), inR_i64.2 (by omega), inR_i64.2 (by omega), inR_i64.2 (by omega), ⟨trivial, trivial, trivial, by show (0 : Int) <= _; omega, by show _ <= (9223372036854775807 : Int); omega⟩, hK⟩
theorem ok50 : FnOk Tryd.prog 50 fcCodeI := fn1_of (n := 5) ((good2_nil _).addF2 ok85F) fun (n, ()) K hx => h50F n K hx
theorem numK_bd (s : List UInt8) : ∀ (k : Nat) (i n r : Int), numK s k i n = some r -> (k : Int) + i = 10 -> 0 <= i -> 0 <= n -> n < 10 ^ (min i 8).toNat -> 0 <= r /\ r < 10 ^ 8
 | 0, i, n, r, h, hk, h0, h1, h2 => by
  simp only [numK, Option.some.injEq] at h; subst h
  rw [show (min i 8).toNat = 8 by omega] at h2
  exact ⟨h1, h2⟩
 | k + 1, i, n, r, h, hk, h0, h1, h2 => by
  simp only [numK] at h
  split at h
  ·cases h
  rename_i hc
  have hc : 48 <= cI s i /\ cI s i <= 57 := by omega
  refine numK_bd s k (i + 1) _ r h (by omega) (by omega) ?_ ?_
  ·split <;> omega
  ·split
   ·rename_i hi
    rw [show (min (i + 1) 8).toNat = (min i 8).toNat + 1 by omega, Int.pow_succ]
    omega
   ·rename_i hi
    rw [show (min (i + 1) 8).toNat = (min i 8).toNat by omega]; exact h2
theorem h16L (s : List UInt8) (n m i : Int) (Q : LQ) : s16 s n m i Q -> xloop2 Tryd.prog {} 5 16 0 lc16 ex16 (fun (_, _, m, i, _) => (m - i).toNat) (s, n, m, i, ()) Q := by
 intro ⟨⟨hs, hm, h0, h1, h2, h3⟩, hN, hS⟩
 subst hm
 rw [v16L]
 have hb : 0 <= cI s i /\ cI s i <= 255 := by
  have := (s.getD i.toNat 0).toNat_lt
  unfold cI; omega
 have h8 : (10 : Int) ^ (min i 8).toNat <= 10 ^ 8 := by
  have : (min i 8).toNat <= 8 := by omega
  exact_mod_cast Nat.pow_le_pow_right (by decide : 0 < 10) this
 have e8 : (10 : Int) ^ 8 = 100000000 := by decide
 simp only [fork_iff, req_iff, decide_eq_true_eq, decide_eq_false_iff_not]
 refine ⟨fun hi => ?_, fun hi => ?_⟩
 ·have ek : (10 - i).toNat = (10 - (i + 1)).toNat + 1 := by omega
  rw [ek] at hN hS
  simp only [numK] at hN hS
  have hc : ((s.getD i.toNat 0).toNat : Int) = cI s i := rfl
  rw [hc]
  refine ⟨⟨h0, by omega⟩, fun hl => hN (if_pos (.inl hl)), fun hl => ⟨⟨h0, by omega⟩, fun hg => hN (if_pos (.inr hg)), fun hg => ?_⟩⟩
  have hn : ¬ (cI s i < 48 \/ cI s i > 57) := fun h => h.elim hl hg
  rw [if_neg hn] at hN
  have hS : ∀ r, numK s (10 - (i + 1)).toNat (i + 1) (if i < 8 then 10 * n + (cI s i - 48) else n) = some r -> 0 <= r -> r <= 99999999 -> Q (.exit 0) (stS 0 sh16e (s, r, ())) := fun r hr => hS r (by rw [if_neg hn]; exact hr)
  refine ⟨fun h8i => ?_, fun h8i => ?_⟩
  ·rw [if_pos h8i] at hN
   have hS : ∀ r, numK s (10 - (i + 1)).toNat (i + 1) (10 * n + (cI s i - 48)) = some r -> 0 <= r -> r <= 99999999 -> Q (.exit 0) (stS 0 sh16e (s, r, ())) := fun r hr => hS r (by rw [if_pos h8i]; exact hr)
   refine ⟨inR_i64.2 (by omega), ⟨h0, by omega⟩, inR_iff.2 ⟨by show (0 : Int) <= _; omega, by show _ <= (255 : Int); omega⟩, inR_i64.2 (by omega), inR_i64.2 (by omega), inR_i64.2 (by omega), by omega, ⟨hs, rfl, by omega, by omega, by omega, ?_⟩, hN, hS⟩
   rw [show (min (i + 1) 8).toNat = (min i 8).toNat + 1 by omega, Int.pow_succ]
   omega
  ·rw [if_neg h8i] at hN
   have hS : ∀ r, numK s (10 - (i + 1)).toNat (i + 1) n = some r -> 0 <= r -> r <= 99999999 -> Q (.exit 0) (stS 0 sh16e (s, r, ())) := fun r hr => hS r (by rw [if_neg h8i]; exact hr)
   refine ⟨inR_i64.2 (by omega), by omega, ⟨hs, rfl, by omega, by omega, by omega, ?_⟩, hN, hS⟩
   rw [show (min (i + 1) 8).toNat = (min i 8).toNat by omega]; exact h3
 ·have e : (10 - i).toNat = 0 := by omega
  rw [e] at hS
  rw [show (min i 8).toNat = 8 by omega] at h3
  exact hS n rfl h2 (by omega)
theorem ok16L : Lp2Ok Tryd.prog 16 0 lc16 := lp2_of (n := 5) (ex := ex16) (m := fun (_, _, m, i, _) => (m - i).toNat) (good2_nil _) fun (s, n, m, i, ()) Q hx => h16L s n m i Q hx
theorem h16F (s : List UInt8) (K : dens [I, I] -> Prop) : K ((numberI s).1, (numberI s).2, ()) -> xfn1 Tryd.prog { f := [(50, fcCodeI)], l2 := [(16, 0, lc16)] } 5 16 fcNumber (s, ()) K := by
 intro hK
 rw [v16F]
 unfold numberI at hK
 rw [fork_iff]
 refine ⟨fun h => ?_, fun h => ?_⟩
 ·have h : s.length ≠ 10 := by
   intro e; rw [e] at h; simp at h
  rw [if_pos h] at hK; exact hK
 ·have h : s.length = 10 := by
   have : ((s.length : Int) != 10) = false := h
   simp at this; omega
  rw [if_neg (by omega)] at hK
  refine ⟨⟨h, by rw [h]; rfl, by omega, by omega, by omega, by omega⟩, fun hn => ?_, fun r hr h0 h1 => ?_⟩
  ·rw [hn] at hK; exact hK
  ·rw [hr] at hK
   simp only at hK
   simp only [fork_iff]
   refine ⟨fun e => ?_, fun e => ⟨⟨h0, h1⟩, fun e2 => ?_, fun e2 => ?_⟩⟩
   ·have e : r = 0 := by simpa using e
    rw [if_pos (.inl e)] at hK; exact hK
   ·have e2 : codeS r ≠ s := by simpa using e2
    rw [if_pos (.inr e2)] at hK; exact hK
   ·have e : r ≠ 0 := by simpa using e
    have e2 : codeS r = s := by simpa using e2
    rw [if_neg (by rintro (h | h); exact e h; exact h e2)] at hK; exact hK
theorem ok16 : FnOk Tryd.prog 16 fcNumber := fn1_of (n := 5) (((good2_nil _).addL2 ok16L).addF ok50) fun (s, ()) K hx => h16F s K hx
theorem h14F (n : Int) (K : dens [.s, I] -> Prop) : K (if 1 <= n /\ n <= 99999999 then codeS n else [], if 1 <= n /\ n <= 99999999 then 0 else 7, ()) -> xfn1 Tryd.prog { f := [(50, fcCodeI), (49, fcWith)] } 5 14 fcCode (n, ()) K := by
 intro hK
 rw [v14F]
 by_cases h : 1 <= n /\ n <= 99999999
 ·rw [if_pos h, if_pos h] at hK
  rw [fork_iff]
  exact ⟨fun e => by simp [h] at e, fun _ => ⟨⟨by have := h.1; show (0 : Int) <= n; omega, h.2⟩, hK⟩⟩
 ·rw [if_neg h, if_neg h] at hK
  rw [fork_iff]
  exact ⟨fun _ => hK, fun e => by simp [h] at e⟩
theorem ok14 : FnOk Tryd.prog 14 fcCode := fn1_of (n := 5) (((good2_nil _).addF ok49).addF ok50) fun (n, ()) K hx => h14F n K hx
end Go.P3
