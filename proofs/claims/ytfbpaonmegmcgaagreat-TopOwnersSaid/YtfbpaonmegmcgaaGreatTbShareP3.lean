/- Shares: the code of both sides shares out as it should. No conditions. -/
import Derived.Test.YtfbpaonmegmcgaaGreatTbShareP2
set_option linter.all false
set_option maxRecDepth 100000
namespace Go.P7
open Go.Lom Go.Proofs Go
theorem prod_in {a b : Int} (h0 : 0 <= a) (h1 : a <= 68719476737) (h2 : 0 <= b) (h3 : b <= 67108864) : 0 <= b * a /\ b * a <= 4611686018494496768 := by
 refine ⟨Int.mul_nonneg h2 h0, ?_⟩
 calc b * a <= 67108864 * 68719476737 := Int.mul_le_mul h3 h1 h0 (by omega)
  _ = 4611686018494496768 := by decide
theorem seg_len {α : Type} (l : List α) (n : Nat) (h : n = l.length) : seg 0 n l = l := by rw [h, seg_all]
theorem better_yes {w out : List Int} {b i : Int} (h : w.getD i.toNat 0 * (out.getD b.toNat 0 + 1) > w.getD b.toNat 0 * (out.getD i.toNat 0 + 1)) : better w out b i = true := decide_eq_true h
theorem better_no {w out : List Int} {b i : Int} (h : ¬ w.getD i.toNat 0 * (out.getD b.toNat 0 + 1) > w.getD b.toNat 0 * (out.getD i.toNat 0 + 1)) : ¬ better w out b i = true := fun e => h (of_decide_eq_true e)
theorem fitW {w : List Int} (h : validW w = true) : w.length <= 9223372036854775807 /\ fitS 0 w := by
 obtain ⟨⟨w1, w2⟩, w3, w4⟩ := validW_iff.1 h
 exact ⟨by omega, fitS_of w3 (by omega) (by omega) (by omega)⟩
theorem h82L (w out : List Int) (b : Int) (w2 : List Int) (m i : Int) (Q : LQ) : s82L w out b w2 m i Q -> xloop Tryz.prog [] [] 5 26 0 lc82 (one sh82E) (fun x => mLen x.1 x.2.2.2.2.2.1) (w, out, b, w2, m, i, ()) Q := by
 intro ⟨⟨hw, ho, hw2, hm, hb0, hb1, h2, h3⟩, hQ⟩
 rw [v82L]
 subst hw2 hm
 obtain ⟨⟨w1, w2'⟩, w3, w4⟩ := validW_iff.1 hw
 obtain ⟨o1, o2⟩ := ho
 simp only [fork_iff, req_iff, decide_eq_true_eq, decide_eq_false_iff_not, seg_all, Nat.zero_add]
 refine ⟨fun hi => ?_, fun hi => ?_⟩
 ·have hwi := w3 _ (getD_mem h2 hi)
  have hwb := w3 _ (getD_mem hb0 hb1)
  have hoi := o2 _ (getD_mem h2 (by omega : i < out.length))
  have hob := o2 _ (getD_mem hb0 (by omega : b < out.length))
  have e : (w2.length - i).toNat = (w2.length - (i + 1)).toNat + 1 := by omega
  rw [e] at hQ
  simp only [bestN] at hQ
  have p1 := prod_in (a := out.getD b.toNat 0 + 1) (b := w2.getD i.toNat 0) (by omega) (by omega) hwi.1 hwi.2
  have p2 := prod_in (a := out.getD i.toNat 0 + 1) (b := w2.getD b.toNat 0) (by omega) (by omega) hwb.1 hwb.2
  refine ⟨⟨h2, hi⟩, ⟨hb0, by omega⟩, inR_i64.2 (by omega), inR_i64.2 (by omega), ⟨hb0, hb1⟩, ⟨h2, by omega⟩, inR_i64.2 (by omega), inR_i64.2 (by omega),
   fun hc => ⟨inR_i64.2 (by omega), mLen_lt hi, ⟨hw, ⟨o1, o2⟩, rfl, rfl, h2, hi, by omega, by omega⟩, fun c hcc => hQ c ?_⟩,
   fun hc => ⟨inR_i64.2 (by omega), mLen_lt hi, ⟨hw, ⟨o1, o2⟩, rfl, rfl, hb0, hb1, by omega, by omega⟩, fun c hcc => hQ c ?_⟩⟩
  ·rw [if_pos (better_yes hc)]; exact hcc
  ·rw [if_neg (better_no hc)]; exact hcc
 ·have e : (w2.length - i).toNat = 0 := by omega
  rw [e] at hQ
  exact hQ b rfl
theorem ok82L : LpOk Tryz.prog 26 0 lc82 := lp_of (n := 5) (ex := one sh82E) (m := fun x => mLen x.1 x.2.2.2.2.2.1) (good_nil _) fun (w, out, b, w2, m, i, ()) Q hx => h82L w out b w2 m i Q hx
theorem best_zero {w out : List Int} (h : 1 <= w.length) : bestN w out w.length 0 0 = best w out := by
 obtain ⟨n, hn⟩ : ∃ n, w.length = n + 1 := ⟨w.length - 1, by omega⟩
 unfold best
 rw [hn]
 simp only [bestN, Nat.add_sub_cancel]
 rw [if_neg (better_no (by omega))]
 rfl
theorem h82F (w out : List Int) (K : dens [I] -> Prop) : s82 w out (fun r => K (r, ())) -> xfn Tryz.prog [] [(26, 0, lc82)] 5 26 fc82 (w, out, ()) K := by
 intro ⟨⟨hw, ho⟩, hK⟩
 rw [v82F]
 obtain ⟨⟨w1, w2⟩, w3, w4⟩ := validW_iff.1 hw
 refine ⟨⟨hw, ho, rfl, rfl, by omega, by omega, by omega, by omega⟩, fun c hc => hK c ?_⟩
 rw [hc, show ((w.length : Int) - 0).toNat = w.length from by omega, best_zero w1]
theorem ok82 : FnOk Tryz.prog 26 fc82 := fn_of (n := 5) ((good_nil _).addL ok82L) fun (w, out, ()) K hx => h82F w out K hx
theorem h49a (s : Int) (w out : List Int) (all : Int) (w2 : List Int) (m i : Int) (Q : LQ) : s49a s w out all w2 m i Q -> xloop Tryz.prog [] [] 5 14 0 lc49a (one sh49aE) (fun x => mLen x.2.1 x.2.2.2.2.2.2.1) (s, w, out, all, w2, m, i, ()) Q := by
 intro ⟨⟨hw, h0, h1, ha, hw2, hm, ho, h2, h3⟩, hQ⟩
 rw [v49a]
 subst hw2 hm ha
 obtain ⟨⟨w1, w2'⟩, w3, w4⟩ := validW_iff.1 hw
 simp only [fork_iff, req_iff, decide_eq_true_eq, decide_eq_false_iff_not, seg_all, Nat.zero_add]
 refine ⟨fun hi => ?_, fun hi => ?_⟩
 ·have hm := getD_mem h2 hi
  rw [drop_step 0 h2 hi] at hQ
  generalize hy : w2.getD i.toNat 0 = y at *
  have hy3 := w3 y hm
  have hle := elem_le_sum (fun z hz => (w3 z hz).1) y hm
  have hsh := share1_bound (s := s) h0 hy3.1 hle w4
  unfold share1 at hsh
  have hpr := prod_in (a := s) (b := y) h0 (by omega) hy3.1 hy3.2
  rw [Int.mul_comm] at hpr
  refine ⟨⟨h2, hi⟩, inR_i64.2 (by omega), by omega, inR_i64.2 (by omega), ⟨h2, by omega⟩, by omega, inR_i64.2 (by omega), by simp, mLen_lt hi, ?_⟩
  rw [seg_len _ _ (by simp)]
  refine ⟨⟨hw, h0, h1, rfl, rfl, rfl, by simpa using ho, by omega, by omega⟩, fun o ho' => hQ o ?_⟩
  rw [ho', show (i + 1).toNat = i.toNat + 1 from by omega]
  have hlt : i.toNat < out.length := by omega
  rw [List.take_add_one, List.take_set_of_le (Nat.le_refl _), List.getElem?_set_self hlt]
  simp [share1]
 ·rw [drop_end hi] at hQ
  refine ⟨Nat.le_refl _, hQ out ?_⟩
  rw [List.take_of_length_le (by omega)]; simp
theorem ok49a : LpOk Tryz.prog 14 0 lc49a := lp_of (n := 5) (ex := one sh49aE) (m := fun x => mLen x.2.1 x.2.2.2.2.2.2.1) (good_nil _) fun (s, w, out, all, w2, m, i, ()) Q hx => h49a s w out all w2 m i Q hx
theorem h49b (w out : List Int) (left : Int) (Q : LQ) : s49b w out left Q -> xloop Tryz.prog [(26, fc82)] [] 5 14 1 lc49b (one sh49bE) (fun x => x.2.2.2.1.toNat) (w, out, (), left, ()) Q := by
 intro ⟨⟨hw, ho, hl⟩, hQ⟩
 rw [v49b]
 obtain ⟨⟨w1, w2⟩, w3, w4⟩ := validW_iff.1 hw
 simp only [fork_iff, req_iff, decide_eq_true_eq, decide_eq_false_iff_not, seg_all, Nat.zero_add]
 refine ⟨fun hi => ?_, fun hi => ?_⟩
 ·refine ⟨Nat.le_refl _, ⟨hw, ho.1, fun x hx => by have := ho.2 x hx; omega⟩, fun c hc => ⟨trivial, ?_⟩⟩
  have hr := best_range (w := w) (out := out) w1
  rw [<- hc] at hr
  have ho1 := ho.1
  have hob := ho.2 _ (getD_mem hr.1 (by omega : c < out.length))
  have hbump := bump_ok ho hr.1 hr.2
  have e2 : left.toNat = (left - 1).toNat + 1 := by omega
  rw [e2] at hQ
  simp only [giveN] at hQ
  rw [<- hc] at hQ
  refine ⟨⟨hr.1, by omega⟩, by omega, inR_i64.2 (by omega), ⟨hr.1, by omega⟩, by omega, inR_i64.2 (by omega), by simp, by omega, ?_⟩
  rw [seg_len _ _ (by simp)]
  exact ⟨⟨hw, hbump, by omega⟩, hQ⟩
 ·have e2 : left.toNat = 0 := by omega
  rw [e2] at hQ
  exact ⟨Nat.le_refl _, hQ out rfl⟩
theorem ok49b : LpOk Tryz.prog 14 1 lc49b := lp_of (n := 5) (ex := one sh49bE) (m := fun x => x.2.2.2.1.toNat) ((good_nil _).addF ok82) fun (w, out, (), left, ()) Q hx => h49b w out left Q hx
theorem h49F (w : List Int) (s : Int) (K : dens [L] -> Prop) : sShare w s (fun r => K (r, ())) -> xfn Tryz.prog [(25, fcSum)] [(14, 0, lc49a), (14, 1, lc49b)] 5 14 fcShare (w, s, ()) K := by
 intro ⟨⟨hw, h0, h1⟩, hK⟩
 rw [v49F]
 obtain ⟨⟨w1, w2⟩, w3, w4⟩ := validW_iff.1 hw
 simp only [req_iff, decide_eq_true_eq, seg_all, Nat.zero_add]
 refine ⟨⟨by omega, Int.le_refl _, by omega, by omega⟩, fitW hw, by simp, ⟨hw, h0, h1, trivial, trivial, trivial, by simp [seg], by omega, by omega⟩, fun o ho => ⟨Nat.le_refl _, ?_⟩⟩
 have ho : o = base w s := by rw [ho]; simp [base]
 subst ho
 have hb := base_le hw h0
 have hok := base_ok hw h0 h1
 have hfit : fitS 0 (base w s) := fitS_of (B := 68719476736) (fun x hx => by have := hok.2 x hx; omega) (by omega) (by have := hok.1; omega) (by omega)
 exact ⟨⟨by have := hok.1; omega, hfit⟩, inR_i64.2 (by omega), Nat.le_refl _, ⟨hw, hok, by omega⟩, fun r hr => ⟨Nat.le_refl _, hK r hr⟩⟩
theorem g49 : Go.Lom.Good Tryz.prog [(25, fcSum)] [(14, 0, lc49a), (14, 1, lc49b)] := (((good_nil _).addF okSum2).addL ok49b).addL ok49a
theorem ok49 : FnOk Tryz.prog 14 fcShare := fn_of (n := 5) g49 fun (w, s, ()) K hx => h49F w s K hx
end Go.P7
