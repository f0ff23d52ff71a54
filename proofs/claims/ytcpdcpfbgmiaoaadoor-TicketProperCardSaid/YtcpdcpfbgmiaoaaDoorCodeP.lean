/- Tickets: codes by the reference: the contracts are kept. No conditions. -/
import Derived.Test.YtcpdcpfbgmiaoaaDoorCodeS
import Derived.Test.YtcpdcpfbgmiaoaaDoorReadS
import Derived.Test.YtcpdcpfbgmiaoaaDoorTickP
set_option linter.all false
set_option maxRecDepth 100000
namespace Go.P3
open Go.Lom Go.Proofs Go
theorem ble_small {n : Nat} (h : n <= 1000) : Nat.ble n 9223372036854775807 = true := Nat.ble_eq_true_of_le (by omega)
theorem textT_len : ∀ (k : Nat) (n : Int), (textT k n).length <= k
 | 0, _ => Nat.le_refl _
 | k + 1, n => by
  simp only [textT]
  split
  ·have := textT_len k (n.tdiv 10); simp; omega
  ·simp
theorem limT_le : ∀ k, k <= 9 -> limT k <= 1000000000
 | 0, _ | 1, _ | 2, _ | 3, _ | 4, _ | 5, _ | 6, _ | 7, _ | 8, _ | 9, _ => by decide
theorem h99F (k : Nat) (hk : k + 1 <= 9) (n : Int) (K : dens [.s] -> Prop) (h0 : 0 <= n) (h1 : n < limT (k + 1)) (hK : K (textT (k + 1) n, ())) : xfn1 Tryd.prog { f := [(99, fcT (limT k) (textT k))] } 5 99 (fcT (limT (k + 1)) (textT (k + 1))) (n, ()) K := by
 rw [v99F]
 obtain ⟨e1, e2⟩ := tm10 h0
 have hl := limT_le (k + 1) hk
 simp only [fork_iff, req_iff, decide_eq_true_eq, decide_eq_false_iff_not]
 refine ⟨fun h => absurd h0 (by omega), fun _ => ⟨?_, ?_, fun h9 => ?_, fun h9 => ?_⟩⟩
 ·rw [e1]; exact inR_i64.2 (by omega)
 ·rw [e1]; exact inR_iff.2 ⟨by show (0 : Int) <= _; omega, by show _ <= (255 : Int); omega⟩
 ·cases k with
  | zero => simp only [limT] at h1; omega
  | succ k =>
   simp only [limT] at h1 hl
   refine ⟨by rw [e2]; exact inR_i64.2 (by omega), ⟨by rw [e2]; show (0 : Int) <= _; omega, by rw [e2]; omega⟩, ?_, ?_⟩
   ·have := textT_len (k + 1) (n.tdiv 10)
    exact ble_small (by show _ + 1 <= _; omega)
   ·rw [textT, if_pos h9] at hK
    exact hK
 ·rw [textT, if_neg h9] at hK
  exact hK
theorem ok99 : ∀ k, k <= 9 -> FnOk Tryd.prog 99 (fcT (limT k) (textT k))
 | 0, _ => fn1_of (n := 5) (good2_nil _) fun (n, ()) K hx => absurd (Int.lt_of_le_of_lt hx.1.1 hx.1.2) (by show ¬ (0 : Int) < 0; omega)
 | k + 1, hk => fn1_of (n := 5) ((good2_nil _).addF (ok99 k (by omega))) fun (n, ()) K hx => h99F k hk n K hx.1.1 hx.1.2 hx.2
def dig : Nat -> Int -> List UInt8
 | 0, _ => []
 | k + 1, n => dig k (n.tdiv 10) ++ [byteI (48 + n.tmod 10)]
theorem dig_len : ∀ (k : Nat) (n : Int), (dig k n).length = k
 | 0, _ => rfl
 | k + 1, n => by simp [dig, dig_len k]
theorem dig_zero : ∀ k, dig k 0 = List.replicate k 48
 | 0 => rfl
 | k + 1 => by
  simp only [dig]
  rw [show (0 : Int).tdiv 10 = 0 from rfl, dig_zero k, List.replicate_succ']
  rfl
theorem pad_text : ∀ (k f : Nat) (n : Int), k + 1 <= f -> 0 <= n -> n < 10 ^ (k + 1) -> padT ((k + 1 : Nat) : Int) (textT f n) = dig (k + 1) n /\ (textT f n).length <= k + 1
 | k, 0, n, h, _, _ => by omega
 | 0, f + 1, n, h, h0, h1 => by
  have h9 : ¬ n > 9 := by simp at h1; omega
  rw [textT, if_neg h9]
  exact ⟨rfl, Nat.le_refl _⟩
 | k + 1, f + 1, n, h, h0, h1 => by
  obtain ⟨e1, e2⟩ := tm10 h0
  by_cases h9 : n > 9
  ·rw [textT, if_pos h9]
   rw [Int.pow_succ] at h1
   obtain ⟨g1, g2⟩ := pad_text k f (n.tdiv 10) (by omega) (by rw [e2]; omega) (by rw [e2]; omega)
   refine ⟨?_, by simp; omega⟩
   show _ = dig (k + 1) (n.tdiv 10) ++ [byteI (48 + n.tmod 10)]
   rw [<- g1]
   unfold padT
   rw [<- List.append_assoc]
   congr 2
   simp only [List.length_append, List.length_singleton]
   congr 1
   omega
  ·rw [textT, if_neg h9]
   refine ⟨?_, by simp⟩
   show _ = dig (k + 1) (n.tdiv 10) ++ [byteI (48 + n.tmod 10)]
   rw [show n.tdiv 10 = 0 by rw [e2]; omega, dig_zero]
   unfold padT
   congr 2
   simp only [List.length_singleton]
   omega
theorem padT_step {m : Int} {s : List UInt8} (h : (s.length : Int) < m) : padT m s = padT m (48 :: s) := by
 unfold padT
 rw [show (m - s.length).toNat = (m - (48 :: s : List UInt8).length).toNat + 1 by simp only [List.length_cons]; omega, List.replicate_succ', List.append_assoc]
 rfl
theorem h84L (m : Int) (s : List UInt8) (Q : LQ) : s84 m s Q -> xloop2 Tryd.prog {} 5 84 0 lc84 (ex1 sh84e) (fun (m, s, _) => (m - s.length).toNat) (m, s, ()) Q := by
 intro ⟨hm, hQ⟩
 rw [v84L]
 have e : Array.toList (ByteArray.data { data := #[(48 : UInt8)] }) ++ s = 48 :: s := rfl
 rw [e]
 simp only [fork_iff, req_iff, decide_eq_true_eq, decide_eq_false_iff_not, List.length_cons]
 refine ⟨fun h => ⟨ble_small (by omega), by show (m - ((s.length + 1 : Nat) : Int)).toNat < (m - (s.length : Int)).toNat; omega, hm, ?_⟩, fun h => ?_⟩
 ·rw [<- padT_step h]; exact hQ
 ·have e : padT m s = s := by unfold padT; rw [show (m - s.length).toNat = 0 by omega]; rfl
  rw [e] at hQ; exact hQ
theorem ok84L : Lp2Ok Tryd.prog 84 0 lc84 := lp2_of (n := 5) (ex := ex1 sh84e) (m := fun (m, s, _) => (m - s.length).toNat) (good2_nil _) fun (m, s, ()) Q hx => h84L m s Q hx
theorem h84F (n m : Int) (K : dens [.s] -> Prop) (h0 : 0 <= n) (h1 : n <= 99999999) (h2 : m <= 10) (hK : K (padT m (textT 8 n), ())) : xfn1 Tryd.prog { f := [(99, fcT (limT 8) (textT 8))], l2 := [(84, 0, lc84)] } 5 84 fcPad (n, m, ()) K := by
 rw [v84F]
 exact ⟨⟨h0, by omega⟩, h2, hK⟩
theorem ok84 : FnOk Tryd.prog 84 fcPad := fn1_of (n := 5) (((good2_nil _).addL2 ok84L).addF (ok99 8 (by omega))) fun (n, m, ()) K hx => h84F n m K hx.1.1 hx.1.2.1 hx.1.2.2 hx.2
theorem codeS_dig (n : Int) : codeS n = dig 10 (fullI n) := by
 unfold codeS codeI
 generalize fullI n = F
 kernel_rfl
theorem dig_two (F : Int) : dig 10 F = dig 8 ((F.tdiv 10).tdiv 10) ++ dig 2 F := by
 show (dig 8 ((F.tdiv 10).tdiv 10) ++ [_]) ++ [_] = dig 8 ((F.tdiv 10).tdiv 10) ++ (([] ++ [_]) ++ [_])
 rw [List.append_assoc]; rfl
theorem h51F (n : Int) (K : dens [.s] -> Prop) (h0 : 0 <= n) (h1 : n <= 99999999) (hK : K (codeS n, ())) : xfn1 Tryd.prog { f := [(84, fcPad)] } 5 51 fcCodeI (n, ()) K := by
 rw [v51F]
 have e : (100 * n).tmod 97 = (100 * n) % 97 := Int.tmod_eq_emod_of_nonneg (by omega)
 generalize hc : (98 : Int) - (100 * n).tmod 97 = c
 have hc1 : 2 <= c /\ c <= 98 := by omega
 have hF : fullI n = 100 * n + c := by unfold fullI; omega
 obtain ⟨p1, p2⟩ := pad_text 7 8 n (by omega) h0 (by show n < 100000000; omega)
 obtain ⟨q1, q2⟩ := pad_text 1 8 c (by omega) (by omega) (by show c < 100; omega)
 have p1 : padT 8 (textT 8 n) = dig 8 n := p1
 have q1 : padT 2 (textT 8 c) = dig 2 c := q1
 rw [p1, q1]
 have eq : dig 8 n ++ dig 2 c = codeS n := by
  rw [codeS_dig, dig_two]
  obtain ⟨a1, a2⟩ := tm10 (n := fullI n) (by omega)
  obtain ⟨b1, b2⟩ := tm10 (n := (fullI n).tdiv 10) (by omega)
  obtain ⟨c1, c2⟩ := tm10 (n := c) (by omega)
  obtain ⟨d1, d2⟩ := tm10 (n := c.tdiv 10) (by omega)
  rw [show ((fullI n).tdiv 10).tdiv 10 = n by omega]
  congr 1
  show ([] ++ [byteI (48 + (c.tdiv 10).tmod 10)]) ++ [byteI (48 + c.tmod 10)] = ([] ++ [byteI (48 + ((fullI n).tdiv 10).tmod 10)]) ++ [byteI (48 + (fullI n).tmod 10)]
  have g1 : (fullI n).tdiv 10 = 10 * n + c.tdiv 10 := by rw [a2, c2, hF]; omega
  have g2 : ((fullI n).tdiv 10).tmod 10 = (c.tdiv 10).tmod 10 := by rw [b1, d1, g1]; omega
  have g3 : (fullI n).tmod 10 = c.tmod 10 := by rw [a1, c1, hF]; omega
  rw [g2, g3]
 rw [eq]
 simp only [req_iff]
 exact ⟨⟨h0, h1, by omega⟩, inR_i64.2 (by omega), inR_i64.2 (by omega), ⟨by show (0 : Int) <= c; omega, by show c <= (99999999 : Int); omega, by omega⟩, ble_small (by rw [dig_len, dig_len]; omega), hK⟩
theorem ok51 : FnOk Tryd.prog 51 fcCodeI := fn1_of (n := 5) ((good2_nil _).addF ok84) fun (n, ()) K hx => h51F n K hx.1.1 hx.1.2 hx.2
theorem h17L (s : List UInt8) (n i : Int) (Q : LQ) : s17 s n i Q -> xloop2 Tryd.prog { f := [(28, fcFrom)] } 5 17 0 lc17 ex17 (fun (_, _, i, _) => (10 - i).toNat) (s, n, i, ()) Q := by
 intro ⟨⟨hs, h0, h1, h2, h3⟩, hN, hS⟩
 rw [v17L]
 have hb : 0 <= cI s i /\ cI s i <= 255 := by
  have := (s.getD i.toNat 0).toNat_lt
  unfold cI; omega
 have h8 : (10 : Int) ^ (min i 8).toNat <= 10 ^ 8 := by
  have : (min i 8).toNat <= 8 := by omega
  exact_mod_cast Nat.pow_le_pow_right (by decide : 0 < 10) this
 have e8 : (10 : Int) ^ 8 = 100000000 := by decide
 have hc : ((s.getD i.toNat 0).toNat : Int) = cI s i := rfl
 rw [hc]
 simp only [fork_iff, req_iff, decide_eq_true_eq, decide_eq_false_iff_not, Bool.not_eq_true', Bool.not_eq_false']
 refine ⟨fun hi => ?_, fun hi => ?_⟩
 ·have ek : (10 - i).toNat = (10 - (i + 1)).toNat + 1 := by omega
  rw [ek] at hN hS
  simp only [numK] at hN hS
  refine ⟨⟨h0, by omega⟩, inR_i64.2 (by omega), inR_i64.2 (by omega), fun hl => hN (if_pos (by omega)), fun hl => ?_⟩
  have hn : ¬ (cI s i < 48 \/ cI s i > 57) := by omega
  rw [if_neg hn] at hN
  have hS : ∀ r, numK s (10 - (i + 1)).toNat (i + 1) (if i < 8 then 10 * n + (cI s i - 48) else n) = some r -> 0 <= r -> r <= 99999999 -> Q (.exit 0) (stS 0 sh17e (s, r, ())) := fun r hr => hS r (by rw [if_neg hn]; exact hr)
  refine ⟨fun h8i => ?_, fun h8i => ?_⟩
  ·rw [if_pos h8i] at hN
   have hS : ∀ r, numK s (10 - (i + 1)).toNat (i + 1) (10 * n + (cI s i - 48)) = some r -> 0 <= r -> r <= 99999999 -> Q (.exit 0) (stS 0 sh17e (s, r, ())) := fun r hr => hS r (by rw [if_pos h8i]; exact hr)
   refine ⟨inR_i64.2 (by omega), inR_i64.2 (by omega), inR_i64.2 (by omega), by omega, ⟨hs, by omega, by omega, by omega, ?_⟩, hN, hS⟩
   rw [show (min (i + 1) 8).toNat = (min i 8).toNat + 1 by omega, Int.pow_succ]
   omega
  ·rw [if_neg h8i] at hN
   have hS : ∀ r, numK s (10 - (i + 1)).toNat (i + 1) n = some r -> 0 <= r -> r <= 99999999 -> Q (.exit 0) (stS 0 sh17e (s, r, ())) := fun r hr => hS r (by rw [if_neg h8i]; exact hr)
   refine ⟨inR_i64.2 (by omega), by omega, ⟨hs, by omega, by omega, by omega, ?_⟩, hN, hS⟩
   rw [show (min (i + 1) 8).toNat = (min i 8).toNat by omega]; exact h3
 ·have e : (10 - i).toNat = 0 := by omega
  rw [e] at hS
  rw [show (min i 8).toNat = 8 by omega] at h3
  exact hS n rfl h2 (by omega)
theorem ok17L : Lp2Ok Tryd.prog 17 0 lc17 := lp2_of (n := 5) (ex := ex17) (m := fun (_, _, i, _) => (10 - i).toNat) ((good2_nil _).addF ok28) fun (s, n, i, ()) Q hx => h17L s n i Q hx
theorem h17F (s : List UInt8) (K : dens [I, I] -> Prop) : K ((numberI s).1, (numberI s).2, ()) -> xfn1 Tryd.prog { f := [(51, fcCodeI)], l2 := [(17, 0, lc17)] } 5 17 fcNumber (s, ()) K := by
 intro hK
 rw [v17F]
 unfold numberI at hK
 rw [fork_iff]
 refine ⟨fun h => ?_, fun h => ?_⟩
 ·have h : s.length ≠ 10 := by
   intro e; rw [e] at h; simp at h
  rw [if_pos h] at hK; exact hK
 ·have h : s.length = 10 := by
   have : ((s.length : Int) != 10) = false := h
   simp at this; omega
  rw [if_neg (by omega)] at hK
  refine ⟨⟨h, by omega, by omega, by omega, by omega⟩, fun hn => ?_, fun r hr h0 h1 => ?_⟩
  ·rw [hn] at hK; exact hK
  ·rw [hr] at hK
   simp only at hK
   simp only [fork_iff, decide_eq_true_eq, decide_eq_false_iff_not]
   refine ⟨fun e => ?_, fun e => ⟨⟨h0, h1⟩, fun e2 => ?_, fun e2 => ?_⟩⟩
   ·rw [if_pos (.inl (by omega))] at hK; exact hK
   ·have e2 : codeS r ≠ s := by simpa using e2
    rw [if_pos (.inr e2)] at hK; exact hK
   ·have e2 : codeS r = s := by simpa using e2
    rw [if_neg (by rintro (h | h); omega; exact h e2)] at hK; exact hK
theorem ok17 : FnOk Tryd.prog 17 fcNumber := fn1_of (n := 5) (((good2_nil _).addL2 ok17L).addF ok51) fun (s, ()) K hx => h17F s K hx
end Go.P3
