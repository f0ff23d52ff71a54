/- Funds: the worst run: the code keeps its contracts. No conditions. -/
import Derived.Test.YtfbpaonmegmcgaaGreatTaWorstS
import Derived.Test.YtfbpaonmegmcgaaGreatTaRunP
set_option linter.all false
set_option maxRecDepth 100000
namespace Go.P9
open Go.Lom Go.Proofs Go
theorem tkSum_step {gs : List Grp} {s : List Int} {day i : Int} (h0 : 0 <= i) (h1 : i < gs.length) : tkSum gs s day i = tkI (gs.getD i.toNat (0, 0, 0)) (s.getD i.toNat 0) day + tkSum gs s day (i + 1) := by
 unfold tkSum
 rw [drop_step 0 h0 (by simpa using h1), List.map_cons, List.sum_cons, range_get h0 h1]
theorem tkSum_end {gs : List Grp} {s : List Int} {day i : Int} (h1 : ¬ i < gs.length) : tkSum gs s day i = 0 := by
 unfold tkSum; rw [drop_end (by simpa using h1)]; rfl
theorem tkSum_congr {gs : List Grp} {s t : List Int} {day : Int} (h : ∀ k, k < gs.length -> s.getD k 0 = t.getD k 0) : tkSum gs s day 0 = tkSum gs t day 0 := by
 unfold tkSum
 simp only [Int.toNat_zero, List.drop_zero]
 congr 1
 refine List.map_congr_left fun k hk => ?_
 rw [h k (by simpa using hk)]
theorem mul_bd {a b A B : Int} (h0 : 0 <= a) (h1 : a <= A) (h2 : 0 <= b) (h3 : b <= B) : 0 <= a * b /\ a * b <= A * B :=
 ⟨Int.mul_nonneg h0 h2, Int.mul_le_mul h1 h3 h2 (by omega)⟩
theorem h82L (day : Int) (f : Fd) (s : List Int) (n m i : Int) (Q : LQ) : s82 day f s n m i Q -> xloop2 Tryz.prog {} 5 54 0 lc82 (fun _ => some (sh82e, 0)) (fun (_, f, _, _, _, i, _) => mL (fGroups f) i) (day, f, s, n, m, i, ()) Q := by
 intro ⟨⟨hf, h0, h1, hm, h2, h3, h4, h5, h6, h7⟩, hQ⟩
 rw [v82L]
 have hn := okF_n hf
 subst hm
 have e3 : i < (fGroups f).length -> sOk s i := fun hi => h3 i h0 hi
 have eg : i < (fGroups f).length -> grpOk ((fGroups f).getD i.toNat (0, 0, 0)) = true := fun hi => grp_at hf h0 hi
 have st : i < (fGroups f).length -> _ := fun hi => tkSum_step (gs := fGroups f) (s := s) (day := day) h0 hi
 have en : ¬ i < (fGroups f).length -> _ := fun hi => tkSum_end (gs := fGroups f) (s := s) (day := day) hi
 have mk : ∀ n', i < (fGroups f).length -> 0 <= n' -> n' <= 1073741824 * (i + 1) -> n' + tkSum (fGroups f) s day (i + 1) = n + tkSum (fGroups f) s day i -> LC2.spec lc82 (day, f, s, n', ((fGroups f).length : Int), i + 1, ()) Q := fun n' hi a b e =>
  show s82 day f s n' (fGroups f).length (i + 1) Q from ⟨⟨hf, by omega, by omega, rfl, h2, h3, h4, h5, a, b⟩, by rw [e]; exact hQ⟩
 dsimp only [fGroups] at *
 simp only [fork_iff, req_iff, decide_eq_true_eq, decide_eq_false_iff_not, Nat.zero_add]
 refine ⟨fun hi => ?_, fun hi => ?_⟩
 ·have e3 := e3 hi
  have eg := grpOk_iff.1 (eg hi)
  have st := st hi
  unfold sOk at e3
  generalize f.2.2.2.2.2.1.getD i.toNat (0, 0, 0) = g at *
  generalize s.getD i.toNat 0 = a at *
  unfold tkI at st
  refine ⟨⟨h0, hi⟩, ⟨h0, by omega⟩, by omega, fun c => ?_, fun c => ?_⟩
  ·rw [if_pos (show 0 <= a from c)] at st
   have hp : 0 <= posI (day - a - g.2.2 + 1) /\ posI (day - a - g.2.2 + 1) <= 13 := by unfold posI; split <;> omega
   have hb := mul_bd eg.2.1.1 eg.2.1.2 hp.1 hp.2
   have hmin : 0 <= minI g.1 (g.2.1 * posI (day - a - g.2.2 + 1)) /\ minI g.1 (g.2.1 * posI (day - a - g.2.2 + 1)) <= 1073741824 := by unfold minI; split <;> omega
   refine ⟨⟨h0, by omega⟩, by omega, inR_i64.2 (by omega), inR_i64.2 (by omega), inR_i64.2 (by omega), ?_, ?_, inR_i64.2 (by omega), mL_lt hi, ?_⟩
   ·exact inR_i64.2 (show -9223372036854775808 <= g.2.1 * posI (day - a - g.2.2 + 1) /\ g.2.1 * posI (day - a - g.2.2 + 1) <= 9223372036854775807 by omega)
   ·exact inR_i64.2 (show -9223372036854775808 <= n + minI g.1 (g.2.1 * posI (day - a - g.2.2 + 1)) /\ n + minI g.1 (g.2.1 * posI (day - a - g.2.2 + 1)) <= 9223372036854775807 by omega)
   ·exact mk (n + minI g.1 (g.2.1 * posI (day - a - g.2.2 + 1))) hi (by omega) (by omega) (by omega)
  ·rw [if_neg (show ¬ 0 <= a from c)] at st
   exact ⟨inR_i64.2 (by omega), mL_lt hi, mk n hi h6 (by omega) (by omega)⟩
 ·rw [en hi, Int.add_zero] at hQ; exact hQ
theorem ok82L : Lp2Ok Tryz.prog 54 0 lc82 := lp2_of (n := 5) (ex := fun _ => some (sh82e, 0)) (m := fun (_, f, _, _, _, i, _) => mL (fGroups f) i) (good2_nil _) fun (day, f, s, n, m, i, ()) Q hx => h82L day f s n m i Q hx
theorem h82F (f : Fd) (l : List Int) (day : Int) (K : dens [I] -> Prop) : ((okF f = true /\ listsB (fGroups f).length l 0 = true /\ l.length <= 9223372036854775807 /\ 0 <= day /\ day <= 12) /\ K (takenL f l day, ())) -> xfn1 Tryz.prog { f := [(34, fc66)], l2 := [(54, 0, lc82)] } 5 54 fc82 (f, l, day, ()) K := by
 intro ⟨⟨h1, h2, h3, h4, h5⟩, hK⟩
 rw [v82F]
 simp only [req_iff, decide_eq_true_eq]
 refine ⟨⟨h1, h3, listsB_in h2⟩, fun r hr ht => ⟨hr, hr, ⟨h1, by omega, by omega, trivial, hr, fun k g0 g1 => ?_, h4, h5, by omega, by omega⟩, ?_⟩⟩
 ·have e := take_getD ht k.toNat (by omega)
  unfold sOk; rw [e]; exact startsL_ok h1 _ g0 g1
 ·rw [Int.zero_add, tkSum_congr (t := startsL f l) fun k hk => take_getD ht k hk]; exact hK
theorem ok82 : FnOk Tryz.prog 54 fc82 := fn1_of (n := 5) (((good2_nil _).addL2 ok82L).addF ok66) fun (f, l, day, ()) K hx => h82F f l day K hx
theorem ok67G : F2Ok Tryz.prog 77 fcClone2 := fn2_of (n := 5) (good2_nil _) fun (l, ()) K hx => by
 obtain ⟨h1, hK⟩ := hx
 rw [v67G]
 intro b hb
 have hm : maxLen = 9223372036854775807 := rfl
 simp only [fork_iff, req_iff, decide_eq_true_eq, Nat.zero_add]
 refine ⟨fun h => ?_, fun _ => ⟨?_, by simp [seg], ?_⟩⟩
 ·have := List.eq_nil_of_length_eq_zero (hb h); subst this; exact hK
 ·simp only [fitsN, Bool.and_eq_true, Nat.ble_eq]; omega
 ·have e : seg 0 l.length (seg 0 0 [] ++ l) = l := by simp [seg]
  rw [e]; exact hK
theorem restV_full {n b : Nat} {l : List Int} (h : ¬ l.length < b) : ∀ k, restV n b k l = []
 | 0 => rfl
 | k + 1 => if_neg h
theorem lists_snoc {n : Nat} {l : List Int} {i : Int} (h : listsB n l 0 = true) (hl : ∀ x ∈ l, x < i) (h0 : 0 <= i) (h1 : i < n) : listsB n (l ++ [i]) 0 = true := by
 unfold listsB
 simp only [Int.toNat_zero, List.drop_zero]
 refine List.all_eq_true.2 fun k hk => ?_
 have hk : k < l.length + 1 := by simpa using hk
 have := (ltB_iff (n := n) (l := l ++ [i]) (i := (k : Int)) (by omega)).2
 rw [Int.toNat_natCast] at this
 by_cases e : k < l.length
 ·have h2 := List.all_eq_true.1 h k (by simpa using e)
  have h3 := (ltB_iff (i := (k : Int)) (by omega)).1 h2
  rw [Int.toNat_natCast] at h3
  have g : ∀ j, j < l.length -> (l ++ [i]).getD j 0 = l.getD j 0 := fun j hj => by
   rw [List.getD_eq_getElem?_getD, List.getD_eq_getElem?_getD, List.getElem?_append_left hj]
  refine this ⟨by rw [g k e]; exact h3.1, fun hg => ?_⟩
  rw [g k e, g _ (by omega)]
  exact h3.2 hg
 ·have e : k = l.length := by omega
  subst e
  have g : (l ++ [i]).getD l.length 0 = i := by rw [List.getD_eq_getElem?_getD, List.getElem?_append_right (Nat.le_refl _)]; simp
  refine this ⟨by rw [g]; omega, fun hg => ?_⟩
  have g2 : (l ++ [i]).getD (((l.length : Nat) : Int) - 1).toNat 0 = l.getD (((l.length : Nat) : Int) - 1).toNat 0 := by
   rw [List.getD_eq_getElem?_getD, List.getD_eq_getElem?_getD, List.getElem?_append_left (by omega)]
  rw [g, g2]
  have := hl _ (getD_mem (d := l) (i := (((l.length : Nat) : Int) - 1).toNat) (by omega) 0)
  omega
theorem seg_app2 (b : List Int) (i : Int) : seg 0 (b.length + [i].length) (seg 0 b.length b ++ [i]) = b ++ [i] := by
 simp [seg]
 exact List.take_of_length_le (by simp)
theorem runW_cons {f : Fd} {day : Int} {x : List Int × Int} {l : List Int} {ls : List (List Int)} : runW f day x (l :: ls) = runW f day (updW f day x l) ls := rfl
theorem runW_app {f : Fd} {day : Int} {x : List Int × Int} {a b : List (List Int)} : runW f day x (a ++ b) = runW f day (runW f day x a) b := List.foldl_append ..
theorem lists_len {n : Nat} {l : List Int} {i : Int} (h : ∀ x ∈ l, x < i) (h0 : 0 <= i) (hl : listsB n l 0 = true) : l.length <= n := by
 have key : ∀ k : Nat, k < l.length -> (k : Int) <= l.getD k 0 := by
  intro k
  induction k with
  | zero => intro hk; exact (listsB_in hl _ (getD_mem hk 0)).1
  | succ k ih =>
   intro hk
   have h2 := List.all_eq_true.1 hl (k + 1) (by simpa using hk)
   have h3 := (ltB_iff (i := ((k + 1 : Nat) : Int)) (by omega)).1 (by rw [Int.toNat_natCast]; exact h2)
   have h4 := h3.2 (by omega)
   rw [show (((k + 1 : Nat) : Int) - 1).toNat = k by omega, Int.toNat_natCast] at h4
   have := ih (by omega)
   omega
 by_cases e : l.length = 0
 ·omega
 ·have h1 := key (l.length - 1) (by omega)
  have h2 := (listsB_in hl _ (getD_mem (d := l) (i := l.length - 1) (by omega) 0)).2
  omega
theorem h87L (c : Nat) (l : List Int) (w : Wd) (f : Fd) (u : Cl) (i : Int) (Q : LQ) : s87 c l w f u i Q -> xloop2 Tryz.prog { f2 := [(76, fc87 c), (77, fcClone2)] } 5 76 0 (lc87 c) (fun _ => some (sh87e, 8)) (fun (_, _, f, _, i, _) => mL (fGroups f) i) (l, w, f, u, i, ()) Q := by
 obtain ⟨⟨f', day, best, most, ⟨⟩⟩, rg⟩ := w
 intro ⟨⟨⟨hw1, hw2⟩, hok, hk⟩, hQ⟩
 have hw1 : f' = f := hw1
 have hw2 : rg = rngOf Tryz.prog 38 0 := hw2
 subst hw1 hw2
 obtain ⟨g1, g2, g3, g4, g5, g6, g7, g8⟩ := hok
 have hn := okF_n g1
 have hB := okB_iff.1 (okF_parts g1).2.2.1
 have hlen := lists_len g7 g4 g6
 have g2 : 0 <= day := g2
 have g3 : day <= 12 := g3
 have hQ : Q (.exit 0) (stS 8 sh87e (mkW (rngOf Tryz.prog 38 0) f' day (runW f' day (best, most) (restV (fGroups f').length (fBegin f').toNat (kV f' i) l)), f', u, ())) := hQ
 show xloop2 Tryz.prog { f2 := [(76, fc87 c), (77, fcClone2)] } 5 76 0 (lc87 c) (fun _ => some (sh87e, 8)) (fun (_, _, f, _, i, _) => mL (fGroups f) i) (l, ((f', day, best, most, ()), rngOf Tryz.prog 38 0), f', ((), (), (), (), ()), i, ()) Q
 rw [v87L]
 have stop : restV (fGroups f').length (fBegin f').toNat (kV f' i) l = [] -> Q (.exit 0) (stS 8 sh87e (((f', day, best, most, ()), rngOf Tryz.prog 38 0), f', ((), (), (), (), ()), ())) := fun h => by rw [h] at hQ; exact hQ
 simp only [fork_iff, req_iff, decide_eq_true_eq, decide_eq_false_iff_not]
 refine ⟨fun hi => ⟨fun hb => ?_, fun hb => stop (restV_full (by dsimp only [fBegin] at *; omega) _)⟩, fun hi => stop (by unfold kV; dsimp only [fGroups] at *; rw [show f'.2.2.2.2.2.1.length - i.toNat = 0 by omega]; rfl)⟩
 have hi : i < (fGroups f').length := hi
 have hb : (l.length : Int) < fBegin f' := hb
 have hkV : kV f' i = kV f' (i + 1) + 1 := by unfold kV; omega
 have hin : ((fGroups f').length : Int) - (kV f' (i + 1) : Nat) - 1 = i := by unfold kV; omega
 have eseg := seg_app2 l i
 have hm : maxLen = 9223372036854775807 := rfl
 have hadd : restV (fGroups f').length (fBegin f').toNat (kV f' i) l = ((l ++ [i]) :: restV (fGroups f').length (fBegin f').toNat (kV f' (i + 1)) (l ++ [i])) ++ restV (fGroups f').length (fBegin f').toNat (kV f' (i + 1)) l := by
  rw [hkV]
  simp only [restV]
  rw [if_pos (by omega), hin]; rfl
 rw [hadd, runW_app] at hQ
 have okl : okV f' day l (i + 1) := ⟨g1, g2, g3, by omega, by omega, g6, fun x hx => by have := g7 x hx; omega, g8⟩
 have ok' : okV f' day (l ++ [i]) (i + 1) := ⟨g1, g2, g3, by omega, by omega, lists_snoc g6 g7 g4 (by omega), fun x hx => by
  rcases List.mem_append.1 hx with hx | hx
  ·have := g7 x hx; omega
  ·simp at hx; omega, by simp; omega⟩
 rw [eseg]
 refine ⟨inR_i64.2 (by omega), by omega, trivial, by omega, ?_, trivial, by simp [seg], ⟨⟨rfl, rfl⟩, ok', by omega⟩, inR_i64.2 (by omega), mL_lt hi, ?_⟩
 ·simp only [fitsN, Bool.and_eq_true, Nat.ble_eq]
  have : [i].length = 1 := rfl
  rw [this]; omega
 ·exact (show s87 c l (mkW (rngOf Tryz.prog 38 0) f' day (runW f' day (best, most) ((l ++ [i]) :: restV (fGroups f').length (fBegin f').toNat (kV f' (i + 1)) (l ++ [i])))) f' ((), (), (), (), ()) (i + 1) Q from ⟨⟨⟨rfl, rfl⟩, okl, by omega⟩, hQ⟩)
theorem ok87L (c : Nat) (h : F2Ok Tryz.prog 76 (fc87 c)) : Lp2Ok Tryz.prog 76 0 (lc87 c) := lp2_of (n := 5) (ex := fun _ => some (sh87e, 8)) (m := fun (_, _, f, _, i, _) => mL (fGroups f) i) (((good2_nil _).addF2 ok67G).addF2 h) fun (l, w, f, u, i, ()) Q hx => h87L c l w f u i Q hx
theorem h87F (c : Nat) (l : List Int) (i : Int) (w : Wd) (f : Fd) (u : Cl) (K : post87.den -> Prop) : sV (c + 1) l i w f u K -> xfn2 Tryz.prog { f := [(54, fc82)], l2 := [(76, 0, lc87 c)] } 5 76 (fc87 (c + 1)) (l, i, w, f, u, ()) K := by
 obtain ⟨⟨f', day, best, most, ⟨⟩⟩, rg⟩ := w
 intro ⟨⟨⟨hw1, hw2⟩, hok, hk⟩, hK⟩
 have hw1 : f' = f := hw1
 have hw2 : rg = rngOf Tryz.prog 38 0 := hw2
 subst hw1 hw2
 have hok : okV f' day l i := hok
 obtain ⟨g1, g2, g3, g4, g5, g6, g7, g8⟩ := id hok
 have hn := okF_n g1
 have hlen := lists_len g7 g4 g6
 have hK : K ((), (), mkW (rngOf Tryz.prog 38 0) f' day (runW f' day (best, most) (l :: restV (fGroups f').length (fBegin f').toNat (kV f' i) l)), f', u, true, ()) := hK
 rw [runW_cons] at hK
 unfold updW at hK
 show xfn2 Tryz.prog { f := [(54, fc82)], l2 := [(76, 0, lc87 c)] } 5 76 (fc87 (c + 1)) (l, i, ((f', day, best, most, ()), rngOf Tryz.prog 38 0), f', ((), (), (), (), ()), ()) K
 rw [v87F]
 simp only [fork_iff, decide_eq_true_eq, decide_eq_false_iff_not]
 refine ⟨⟨g1, g6, by omega, g2, g3⟩, fun a => ⟨⟨⟨rfl, rfl⟩, hok, by omega⟩, ?_⟩, fun a => ⟨⟨⟨rfl, rfl⟩, hok, by omega⟩, ?_⟩⟩
 ·rw [if_pos (show takenL f' l day > (best, most).2 from a)] at hK; exact hK
 ·rw [if_neg (show ¬ takenL f' l day > (best, most).2 from a)] at hK; exact hK
theorem ok87 : ∀ c, F2Ok Tryz.prog 76 (fc87 c)
 | 0 => fun (l, i, w, f, u, ()) K h => absurd h.1.2.2 (Nat.not_lt_zero _)
 | c + 1 => fn2_of (n := 5) (((good2_nil _).addL2 (ok87L c (ok87 c))).addF ok82) fun (l, i, w, f, u, ()) K hx => h87F c l i w f u K hx
theorem h72F (f : Fd) (day : Int) (K : dens [L, I] -> Prop) : ((okF f = true /\ 0 <= day /\ day <= 12) /\ K ((worstW f day).1, (worstW f day).2, ())) -> xfn1 Tryz.prog { f2 := [(76, fc87 100)] } 5 38 fcWorst (f, day, ()) K := by
 intro ⟨⟨h1, h2, h3⟩, hK⟩
 rw [v72F]
 have hn := okF_n h1
 have hB := okB_iff.1 (okF_parts h1).2.2.1
 refine ⟨⟨⟨rfl, rfl⟩, ⟨h1, h2, h3, by omega, by omega, rfl, fun x hx => by simp at hx, by simp; omega⟩, by unfold kV; omega⟩, ?_⟩
 have e : kV f 0 = (fGroups f).length := by unfold kV; simp
 rw [e]
 exact hK
theorem ok72 : FnOk Tryz.prog 38 fcWorst := fn1_of (n := 5) ((good2_nil _).addF2 (ok87 100)) fun (f, day, ()) K hx => h72F f day K hx
end Go.P9
