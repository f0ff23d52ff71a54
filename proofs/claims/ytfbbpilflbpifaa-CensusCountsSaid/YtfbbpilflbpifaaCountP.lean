/- CensusCounts returns true. No conditions. -/
import Derived.Test.YtfbbpilflbpifaaCountT
set_option linter.constructorNameAsVariable false
set_option linter.unusedVariables false
set_option linter.unusedSimpArgs false
set_option maxRecDepth 100000
set_option maxHeartbeats 4000000
namespace Go.P10
open Go.Lom Go.Proofs Go

theorem ok66 : FnOk Try.prog 66 fc66 := fn1_of (n := 5) (good2_nil _) fun (s, k, ()) K hx => by
  obtain ⟨⟨h1, h2, h3⟩, hK⟩ := hx
  have hK : ∀ b : Bool, b = bitB s k → K (b, ()) := hK
  have h2 : (0 : Int) ≤ k := h2
  have h3 : k ≤ (62 : Int) := h3
  rw [v66F]
  refine req_iff.2 ⟨decide_eq_true h2, hK _ ?_⟩
  unfold bitB
  rw [show min (Int.toNat k) 64 = Int.toNat k from Nat.min_eq_left (by have : Int.toNat k ≤ Int.toNat 62 := Int.toNat_le_toNat h3; have e : Int.toNat 62 = 62 := rfl; omega)]
theorem cnt_succ (s f : Int) (k : Nat) : cntB s f (k + 1) = if bitB s k = true then ((cntB s f k).1 + 1, (cntB s f k).2 || decide ((k : Int) < f)) else cntB s f k := rfl
theorem cnt_bd (s f : Int) : ∀ k, 0 ≤ (cntB s f k).1 ∧ (cntB s f k).1 ≤ k
  | 0 => ⟨Int.le_refl 0, Int.le_refl 0⟩
  | k + 1 => by
    have := cnt_bd s f k
    rw [cnt_succ]
    split <;> (try dsimp only) <;> omega
theorem h22B (n m f x y s : Int) (z : Int) (h : Bool) (k : Int) (Q : LQ) (h1 : 0 ≤ n ∧ n ≤ 8) (h2 : 0 ≤ s) (h3 : 0 ≤ k ∧ k ≤ n) (h4 : (z, h) = cntB s f k.toNat) (hQ : ∀ z' h', (z', h') = cntB s f n.toNat → Q (.exit 2) (stS 0 sh22be (n, m, f, x, y, s, z', h', ()))) :
    xloop2 Try.prog { nm := true, f := [(66, fc66)] } 5 22 1 lc22b (fun _ => some (sh22be, 0)) (fun (n, _, _, _, _, _, _, _, k, _) => (n - k).toNat) (n, m, f, x, y, s, z, h, k, ()) Q := by
  rw [v22B]
  have hb := cnt_bd s f k.toNat
  have e1 : (cntB s f k.toNat).1 = z := by rw [← h4]
  have e2 : (cntB s f k.toNat).2 = h := by rw [← h4]
  refine fork_iff.2 ⟨fun c => ?_, fun c => ?_⟩
  · have c : k < n := of_decide_eq_true c
    have hs := cnt_succ s f k.toNat
    rw [show k.toNat + 1 = (k + 1).toNat by omega, show ((k.toNat : Nat) : Int) = k by omega, e1, e2] at hs
    have k1 : inR .i64 (k + 1) = true := inR_i64.2 (by omega)
    have z1 : inR .i64 (z + 1) = true := inR_i64.2 (by omega)
    have ms : (n - (k + 1)).toNat < (n - k).toNat := by omega
    have nx : ∀ {z' : Int} {h' : Bool}, (z', h') = cntB s f (k + 1).toNat → lc22b.spec (n, m, f, x, y, s, z', h', k + 1, ()) Q := fun g => ⟨⟨h1, h2, ⟨show (0 : Int) ≤ k + 1 by omega, show k + 1 ≤ n by omega⟩, g⟩, hQ⟩
    refine ⟨⟨h2, h3.1, show k ≤ 62 by omega⟩, fun b hb => ?_⟩
    rw [← hb] at hs
    refine fork_iff.2 ⟨fun hb => req_iff.2 ⟨z1, fork_iff.2 ⟨fun hh => req_iff.2 ⟨k1, ms, nx ?_⟩, fun hh => req_iff.2 ⟨k1, ms, nx ?_⟩⟩⟩, fun hb => req_iff.2 ⟨k1, ms, nx ?_⟩⟩
    · rw [hs, if_pos hb, hh, Bool.true_or]
    · rw [hs, if_pos hb, hh, Bool.false_or]
    · rw [hs, if_neg (by rw [hb]; decide), ← h4]
  · have c : ¬ k < n := of_decide_eq_false c
    rw [show k.toNat = n.toNat by omega] at h4
    exact hQ z h h4
theorem ok22B : Lp2Ok Try.prog 22 1 lc22b := lp2_of (n := 5) (ex := fun _ => some (sh22be, 0)) (m := fun (n, _, _, _, _, _, _, _, k, _) => (n - k).toNat) ((good2_nilN _).addF ok66) fun (n, m, f, x, y, s, z, h, k, ()) Q hx => by
  obtain ⟨⟨h1, h2, h3, h4⟩, hQ⟩ := hx
  exact h22B n m f x y s z h k Q h1 h2 h3 h4 hQ
theorem allN_succ (n m f : Int) (k : Nat) : allN n m f (k + 1) = allN n m f k + if (cntB k f n.toNat).1 = m then 1 else 0 := by
  unfold allN
  rw [List.range_succ, List.countP_append, List.countP_singleton]
  by_cases h : (cntB k f n.toNat).1 = m
  · rw [if_pos (by simpa using h), if_pos h]; omega
  · rw [if_neg (by simpa using h), if_neg h]; omega
theorem nonN_succ (n m f : Int) (k : Nat) : nonN n m f (k + 1) = nonN n m f k + if (cntB k f n.toNat).1 = m ∧ (cntB k f n.toNat).2 = false then 1 else 0 := by
  unfold nonN
  rw [List.range_succ, List.countP_append, List.countP_singleton]
  by_cases h : (cntB k f n.toNat).1 = m ∧ (cntB k f n.toNat).2 = false
  · rw [if_pos (by simpa using h), if_pos h]; omega
  · rw [if_neg (by simpa using h), if_neg h]; omega
theorem allN_bd (n m f : Int) (k : Nat) : 0 ≤ allN n m f k ∧ allN n m f k ≤ k := by
  unfold allN
  have := List.countP_le_length (p := fun j : Nat => (cntB j f n.toNat).1 == m) (l := List.range k)
  rw [List.length_range] at this
  omega
theorem nonN_bd (n m f : Int) (k : Nat) : 0 ≤ nonN n m f k ∧ nonN n m f k ≤ k := by
  unfold nonN
  have := List.countP_le_length (p := fun j : Nat => (cntB j f n.toNat).1 == m && !(cntB j f n.toNat).2) (l := List.range k)
  rw [List.length_range] at this
  omega
theorem pow8 {n : Nat} (h : n ≤ 8) : (2 : Int) ^ n ≤ 256 ∧ (1 : Int) ≤ 2 ^ n := by
  have : n = 0 ∨ n = 1 ∨ n = 2 ∨ n = 3 ∨ n = 4 ∨ n = 5 ∨ n = 6 ∨ n = 7 ∨ n = 8 := by omega
  rcases this with h | h | h | h | h | h | h | h | h <;> rw [h] <;> decide
theorem h22A (n m f s : Int) (Q : LQ) (h1 : 0 ≤ n ∧ n ≤ 8) (h2 : 0 ≤ s ∧ s ≤ 2 ^ n.toNat) (hQ : ∀ x' y' : Int, x' = allN n m f (2 ^ n.toNat) → y' = nonN n m f (2 ^ n.toNat) → Q (.exit 0) (stS 0 sh22ae (x', y', ()))) :
    xloop2 Try.prog { nm := true, l2 := [(22, 1, lc22b)] } 5 22 0 lc22a (fun _ => some (sh22ae, 0)) (fun (n, _, _, _, _, s, _) => (2 ^ n.toNat - s).toNat) (n, m, f, allN n m f s.toNat, nonN n m f s.toNat, s, ()) Q := by
  rw [v22A]
  have hp := pow8 (show n.toNat ≤ 8 by omega)
  have ax := allN_bd n m f s.toNat
  have bx := nonN_bd n m f s.toNat
  have e : (1 : Int) * 2 ^ min n.toNat 64 = 2 ^ n.toNat := by rw [Int.one_mul, Nat.min_eq_left (by omega)]
  rw [e]
  refine req_iff.2 ⟨decide_eq_true h1.1, req_iff.2 ⟨inR_i64.2 (by omega), fork_iff.2 ⟨fun c => ?_, fun c => ?_⟩⟩⟩
  · have c : s < 2 ^ n.toNat := of_decide_eq_true c
    have sa := allN_succ n m f s.toNat
    have sn := nonN_succ n m f s.toNat
    rw [show s.toNat + 1 = (s + 1).toNat by omega, show ((s.toNat : Nat) : Int) = s by omega] at sa sn
    have ms : (2 ^ n.toNat - (s + 1)).toNat < ((2 : Int) ^ n.toNat - s).toNat := by omega
    have s1 : inR .i64 (s + 1) = true := inR_i64.2 (by omega)
    have nx : ∀ {x' y' : Int}, x' = allN n m f (s + 1).toNat → y' = nonN n m f (s + 1).toNat → lc22a.spec (n, m, f, x', y', s + 1, ()) Q := fun g1 g2 => ⟨⟨h1, ⟨show (0 : Int) ≤ s + 1 by omega, show s + 1 ≤ 2 ^ n.toNat by omega⟩, g1, g2⟩, hQ⟩
    refine ⟨⟨h1, h2.1, ⟨Int.le_refl 0, h1.1⟩, rfl⟩, fun z h hz => ?_⟩
    rw [← hz] at sa sn
    dsimp only at sa sn
    refine fork_iff.2 ⟨fun d => req_iff.2 ⟨inR_i64.2 (by omega), fork_iff.2 ⟨fun d2 => req_iff.2 ⟨inR_i64.2 (by omega), req_iff.2 ⟨s1, ms, nx ?_ ?_⟩⟩, fun d2 => req_iff.2 ⟨s1, ms, nx ?_ ?_⟩⟩⟩, fun d => req_iff.2 ⟨s1, ms, nx ?_ ?_⟩⟩
    · rw [sa, if_pos (by simpa using d)]
    · rw [sn, if_pos ⟨by simpa using d, by simpa using d2⟩]
    · rw [sa, if_pos (by simpa using d)]
    · rw [sn, if_neg (by intro g; rw [g.2] at d2; cases d2), Int.add_zero]
    · rw [sa, if_neg (by simpa using d), Int.add_zero]
    · rw [sn, if_neg (by intro g; rw [g.1] at d; simp at d), Int.add_zero]
  · have c : ¬ s < 2 ^ n.toNat := of_decide_eq_false c
    have es : s.toNat = 2 ^ n.toNat := by
      have : s = 2 ^ n.toNat := by omega
      rw [this]
      have : ((2 ^ n.toNat : Nat) : Int) = 2 ^ n.toNat := by simp
      rw [← this, Int.toNat_natCast]
    rw [es]
    exact hQ _ _ rfl rfl
theorem ok22A : Lp2Ok Try.prog 22 0 lc22a := lp2_of (n := 5) (ex := fun _ => some (sh22ae, 0)) (m := fun (n, _, _, _, _, s, _) => (2 ^ n.toNat - s).toNat) ((good2_nilN _).addL2 ok22B) fun (n, m, f, x, y, s, ()) Q hx => by
  obtain ⟨⟨h1, h2, hx, hy⟩, hQ⟩ := hx
  have hx : x = allN n m f s.toNat := hx
  have hy : y = nonN n m f s.toNat := hy
  subst hx hy
  exact h22A n m f s Q h1 h2 hQ
/-! all of them, one by one -/
def chk22 (n m f : Int) : Bool := allN n m f (2 ^ n.toNat) == chs n m && nonN n m f (2 ^ n.toNat) == chs (n - f) m
def allChk22 : Bool := (List.range 9).all fun n : Nat => (List.range (n + 1)).all fun m => (List.range (n + 1)).all fun f => chk22 n m f
theorem all22 : allChk22 = true := by kernel_rfl
theorem chk22_all {n m x : Int} (hn : 0 ≤ n ∧ n ≤ 8) (hm : 0 ≤ m ∧ m ≤ n) (hx : 0 ≤ x ∧ x ≤ n) : chk22 n m x = true := by
  have h := all22
  unfold allChk22 at h
  obtain ⟨a, rfl⟩ : ∃ a : Nat, n = a := ⟨n.toNat, by omega⟩
  obtain ⟨b, rfl⟩ : ∃ b : Nat, m = b := ⟨m.toNat, by omega⟩
  obtain ⟨c, rfl⟩ : ∃ c : Nat, x = c := ⟨x.toNat, by omega⟩
  exact List.all_eq_true.1 (List.all_eq_true.1 (List.all_eq_true.1 h a (List.mem_range.2 (by omega))) b (List.mem_range.2 (by omega))) c (List.mem_range.2 (by omega))
theorem ok22 : FnOk Try.prog 22 fc22 := fn1_of (n := 5) ((good2_nilN _).addL2 ok22A) fun (n, m, f, ()) K hx => by
  obtain ⟨⟨h1, h2, h3⟩, hK⟩ := hx
  have h1 : (0 : Int) ≤ n ∧ n ≤ (8 : Int) := h1
  have hK : ∀ p q : Int, p = chs n m → q = chs (n - f) m → K (p, q, ()) := hK
  rw [v22F]
  have hp := pow8 (show Int.toNat n ≤ 8 from Int.toNat_le_toNat h1.2)
  have hc := chk22_all h1 h2 h3
  unfold chk22 at hc
  simp only [Bool.and_eq_true, beq_iff_eq] at hc
  refine ⟨⟨h1, ⟨Int.le_refl 0, ?_⟩, rfl, rfl⟩, fun x y hx hy => hK x y (by rw [hx, hc.1]) (by rw [hy, hc.2])⟩
  exact Int.le_trans (by decide) hp.2
end Go.P10
