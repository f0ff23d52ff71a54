/- Funds: runs that are allowed, the law of runs: the code keeps its contracts. No conditions. -/
import Derived.Test.YtfbpaonmegmcgaaGreatTaRunS
import Derived.Test.YtfbpaonmegmcgaaGreatTaStartsP
set_option linter.all false
set_option maxRecDepth 100000
namespace Go.P9
open Go.Lom Go.Proofs Go
theorem chkE_ne {f : Fd} : (chkE f != 0) = !okF f := by unfold chkE; cases okF f <;> rfl
theorem startsL_len (f : Fd) (l : List Int) : (startsL f l).length = (fGroups f).length := by unfold startsL; rw [passN_len, initD_len]
theorem range_get {n : Nat} {i : Int} (h0 : 0 <= i) (h : i < n) : (List.range n).getD i.toNat 0 = i.toNat := by
 rw [List.getD_eq_getElem?_getD, List.getElem?_range (by omega)]; rfl
theorem cellsOk_step {g : Grp} {st : Int} {row : List Int} {j : Int} (h0 : 0 <= j) (h1 : j < row.length) : cellsOk g st row j = (cellOk g st j (row.getD j.toNat 0) && cellsOk g st row (j + 1)) := by
 unfold cellsOk
 rw [drop_step 0 h0 (by simpa using h1), List.all_cons, range_get h0 h1, show ((j.toNat : Nat) : Int) = j by omega]
theorem cellsOk_end {g : Grp} {st : Int} {row : List Int} {j : Int} (h1 : ¬ j < row.length) : cellsOk g st row j = true := by
 unfold cellsOk; rw [drop_end (by simpa using h1)]; rfl
theorem rowsOk_step {f : Fd} {s : List Int} {out : List (List Int)} {i : Int} (h0 : 0 <= i) (h1 : i < out.length) : rowsOk f s out i = (rowOk f s i.toNat (out.getD i.toNat []) && rowsOk f s out (i + 1)) := by
 unfold rowsOk
 rw [drop_step 0 h0 (by simpa using h1), List.all_cons, range_get h0 h1]
theorem rowsOk_end {f : Fd} {s : List Int} {out : List (List Int)} {i : Int} (h1 : ¬ i < out.length) : rowsOk f s out i = true := by
 unfold rowsOk; rw [drop_end (by simpa using h1)]; rfl
theorem cellOk_iff {g : Grp} {st d n : Int} (hg : grpOk g = true) : cellOk g st d n = true ↔ (0 <= n /\ n <= g.2.1) /\ (n > 0 -> ¬ st < 0 /\ ¬ d < st + g.2.2) := by
 have := grpOk_iff.1 hg
 unfold cellOk mayI
 rw [decide_eq_true_eq]
 split
 ·rename_i h
  constructor
  ·intro ⟨a, b⟩; exact ⟨⟨a, by omega⟩, fun c => by omega⟩
  ·intro ⟨⟨a, b⟩, c⟩
   refine ⟨a, ?_⟩
   by_cases e : n > 0
   ·have := c e; omega
   ·omega
 ·rename_i h
  constructor
  ·intro ⟨a, b⟩; exact ⟨⟨a, b⟩, fun c => by omega⟩
  ·intro ⟨⟨a, b⟩, c⟩; exact ⟨a, b⟩
theorem h48b (f : Fd) (s : List Int) (i : Int) (row0 : List Int) (g : Grp) (out : List (List Int)) (m k : Int) (row : List Int) (n j : Int) (Q : LQ) : s48b f s i row0 g out m k row n j Q ->
  xloop2 Tryz.prog { f := [(31, fcWith)] } 5 18 1 lc48b ex48b (fun (_, _, _, _, _, _, _, _, row, _, j, _) => mL row j) (f, s, i, row0, g, out, m, k, row, n, j, ()) Q := by
 intro ⟨⟨h0, h1, hn, h2, h3, h4, h5, h6, h7⟩, hQ1, hQ2⟩
 rw [v48b]
 subst hn
 simp only [fork_iff, req_iff, decide_eq_true_eq, decide_eq_false_iff_not, Bool.not_eq_true', Bool.not_eq_false', Nat.zero_add]
 refine ⟨fun hi => ?_, fun hi => hQ1 (cellsOk_end hi)⟩
 rw [cellsOk_step h0 hi] at hQ1 hQ2
 have hg := grpOk_iff.1 h7
 unfold sOk at h6
 have bad : ¬ cellOk g (s.getD i.toNat 0) j (row.getD j.toNat 0) = true -> Q .ret (stS 0 shR4 (false, ())) := fun h => hQ2 (by rw [Bool.not_eq_true] at h; rw [h]; rfl)
 have go : cellOk g (s.getD i.toNat 0) j (row.getD j.toNat 0) = true -> inR .i64 (j + 1) = true /\ (mL row (j + 1) < mL row j /\ LC2.spec lc48b (f, s, i, row0, g, out, m, k, row, (row.length : Int), j + 1, ()) Q) := fun h => by
  rw [h, Bool.true_and] at hQ1 hQ2
  exact ⟨inR_i64.2 (by omega), mL_lt hi, show s48b f s i row0 g out m k row row.length (j + 1) Q from ⟨⟨by omega, by omega, rfl, h2, h3, h4, h5, h6, h7⟩, hQ1, hQ2⟩⟩
 refine ⟨⟨h0, hi⟩, fun a => bad fun h => a ((cellOk_iff h7).1 h).1, fun a => ⟨fun b => ⟨⟨h4, h5⟩, by omega, fun c => bad fun h => (((cellOk_iff h7).1 h).2 b).1 c, fun c => ⟨⟨h4, h5⟩, by omega, inR_i64.2 (by omega), fun d => bad fun h => (((cellOk_iff h7).1 h).2 b).2 d, fun d => go ((cellOk_iff h7).2 ⟨a, fun _ => ⟨c, d⟩⟩)⟩⟩, fun b => go ((cellOk_iff h7).2 ⟨a, fun e => absurd e b⟩)⟩⟩
theorem ok48b : Lp2Ok Tryz.prog 18 1 lc48b := lp2_of (n := 5) (ex := ex48b) (m := fun (_, _, _, _, _, _, _, _, row, _, j, _) => mL row j) ((good2_nil _).addF ok71) fun (f, s, i, row0, g, out, m, k, row, n, j, ()) Q hx => h48b f s i row0 g out m k row n j Q hx
theorem fit_of : ∀ (l : List Int) (n : Int), (∀ x ∈ l, 0 <= x /\ x <= 1073741824) -> 0 <= n -> n + 1073741824 * (l.length : Int) <= 1000000000000000 -> fitS n l
 | [], n, _, h0, h => by
  simp only [fitS]; exact inR_i64.2 (by simp at h; omega)
 | x :: l, n, hx, h0, h => by
  have := hx x (List.mem_cons_self ..)
  have hl : ((x :: l).length : Int) = l.length + 1 := by simp
  simp only [fitS]
  exact ⟨inR_i64.2 (by omega), fit_of l (n + x) (fun y hy => hx y (List.mem_cons_of_mem _ hy)) (by omega) (by omega)⟩
theorem cells_in {g : Grp} {st : Int} {row : List Int} (hg : grpOk g = true) (h : cellsOk g st row 0 = true) : ∀ x ∈ row, 0 <= x /\ x <= 1073741824 := by
 intro x hx
 obtain ⟨i, hi, rfl⟩ := List.getElem_of_mem hx
 have h1 := List.all_eq_true.1 h i (by simpa using hi)
 have h2 := (cellOk_iff hg).1 h1
 have e : row.getD i 0 = row[i] := by simp [List.getD_eq_getElem?_getD, hi]
 rw [e] at h2
 have := grpOk_iff.1 hg
 omega
theorem grp_at {f : Fd} (h : okF f = true) {i : Int} (h0 : 0 <= i) (h1 : i < (fGroups f).length) : grpOk ((fGroups f).getD i.toNat (0, 0, 0)) = true :=
 List.all_eq_true.1 (okF_parts h).2.2.2.1 _ (by simp [List.getD_eq_getElem?_getD, show i.toNat < (fGroups f).length by omega])
theorem rowOk_iff {f : Fd} {s : List Int} {i : Nat} {row : List Int} : rowOk f s i row = true ↔ row.length = (fIn f).length /\ cellsOk ((fGroups f).getD i (0, 0, 0)) (s.getD i 0) row 0 = true /\ row.sum <= ((fGroups f).getD i (0, 0, 0)).1 := by
 unfold rowOk; simp only [Bool.and_eq_true, decide_eq_true_eq]
theorem bne_len {a b : Nat} : (((a : Nat) : Int) != b) = true ↔ ¬ a = b := by rw [bne_iff_ne, ne_eq, Int.ofNat_inj]
theorem bne_len' {a b : Nat} : (((a : Nat) : Int) != b) = false ↔ a = b := by rw [bne_eq_false_iff_eq, Int.ofNat_inj]
theorem h48a (f : Fd) (s : List Int) (out : List (List Int)) (m i : Int) (Q : LQ) : s48 f s out m i Q -> xloop2 Tryz.prog { f := [(31, fcWith), (32, fcSum)], l2 := [(18, 1, lc48b)] } 5 18 0 lc48 ex48 (fun (_, _, out, _, i, _) => mL out i) (f, s, out, m, i, ()) Q := by
 intro ⟨⟨hf, h0, h1, hm, h2, h3, h4⟩, hQ1, hQ2⟩
 rw [v48a]
 subst hm
 have hn := okF_n hf
 have hin := (okA_iff.1 (okF_parts hf).1).2.1
 simp only [fork_iff, req_iff, decide_eq_true_eq, decide_eq_false_iff_not, bne_len, bne_len']
 refine ⟨fun hi => ?_, fun hi => hQ1 (rowsOk_end hi)⟩
 rw [rowsOk_step h0 hi] at hQ1 hQ2
 have hg := grp_at hf h0 (by omega)
 have bad : ¬ rowOk f s i.toNat (out.getD i.toNat []) = true -> Q .ret (stS 0 shR4 (false, ())) := fun h => hQ2 (by rw [Bool.not_eq_true] at h; rw [h]; rfl)
 have go : rowOk f s i.toNat (out.getD i.toNat []) = true -> inR .i64 (i + 1) = true /\ (mL out (i + 1) < mL out i /\ LC2.spec lc48 (f, s, out, (out.length : Int), i + 1, ()) Q) := fun h => by
  rw [h, Bool.true_and] at hQ1 hQ2
  exact ⟨inR_i64.2 (by omega), mL_lt hi, show s48 f s out out.length (i + 1) Q from ⟨⟨hf, by omega, by omega, rfl, h2, h3, h4⟩, hQ1, hQ2⟩⟩
 dsimp only [fIn, fGroups] at *
 generalize out.getD i.toNat [] = row at *
 refine ⟨⟨h0, hi⟩, fun a => bad fun h => a (rowOk_iff.1 h).1, fun a => ⟨⟨h0, by omega⟩, ⟨by omega, by omega, trivial, by omega, h3, h0, by omega, h4 i h0 hi, hg⟩, fun b => ⟨⟨by omega, fit_of row 0 (cells_in hg b) (by omega) (by omega)⟩, trivial, fun c => bad fun h => ?_, fun c => go (rowOk_iff.2 ⟨a, b, ?_⟩)⟩, fun b => bad fun h => ?_⟩⟩
 ·have := (rowOk_iff.1 h).2.2; dsimp only [fGroups] at this; omega
 ·dsimp only [fGroups]; omega
 ·have := (rowOk_iff.1 h).2.1; dsimp only [fGroups] at this; rw [b] at this; cases this
theorem ok48a : Lp2Ok Tryz.prog 18 0 lc48 := lp2_of (n := 5) (ex := ex48) (m := fun (_, _, out, _, i, _) => mL out i) ((((good2_nil _).addL2 ok48b).addF ok74).addF ok71) fun (f, s, out, m, i, ()) Q hx => h48a f s out m i Q hx
theorem rowsOk_congr {f : Fd} {s t : List Int} {out : List (List Int)} (h : ∀ k, k < out.length -> s.getD k 0 = t.getD k 0) : rowsOk f s out 0 = rowsOk f t out 0 := by
 unfold rowsOk
 simp only [Int.toNat_zero, List.drop_zero]
 rw [Bool.eq_iff_iff, List.all_eq_true, List.all_eq_true]
 refine forall_congr' fun k => ?_
 refine forall_congr' fun hk => ?_
 unfold rowOk
 rw [h k (by simpa using hk)]
theorem startsL_inv {f : Fd} (h : okF f = true) (l : List Int) : InvD (startsL f l) := passN_inv _ _ (initD_inv l (okF_n h)) (by rw [initD_len]; exact okF_ws h)
theorem startsL_ok {f : Fd} (h : okF f = true) (l : List Int) {k : Int} (h0 : 0 <= k) (h1 : k < (fGroups f).length) : sOk (startsL f l) k := (startsL_inv h l).at (by rw [startsL_len]; omega) 0
theorem take_getD {r t : List Int} {n : Nat} (h : r.take n = t) (k : Nat) (hk : k < n) : r.getD k 0 = t.getD k 0 := by
 subst h
 rw [List.getD_eq_getElem?_getD, List.getD_eq_getElem?_getD, List.getElem?_take_of_lt hk]
theorem allowB_split {f : Fd} {r : Rn} {K : Bool -> Prop} (hK : K (allowB f r)) : (listsB (fGroups f).length r.1 0 = false -> K false) /\ (listsB (fGroups f).length r.1 0 = true -> ((r.1.length : Int) > fBegin f -> K false) /\ (¬ (r.1.length : Int) > fBegin f -> (¬ r.2.length = (fGroups f).length -> K false) /\ (r.2.length = (fGroups f).length -> (rowsOk f (startsL f r.1) r.2 0 = true -> K true) /\ (rowsOk f (startsL f r.1) r.2 0 = false -> K false)))) := by
 unfold allowB at hK
 refine ⟨fun h => ?_, fun h => ⟨fun a => ?_, fun a => ⟨fun b => ?_, fun b => ⟨fun c => ?_, fun c => ?_⟩⟩⟩⟩
 ·rw [h] at hK; exact hK
 ·rw [h, decide_eq_false (show ¬ (r.1.length : Int) <= fBegin f by omega)] at hK; exact hK
 ·rw [h, decide_eq_true (show (r.1.length : Int) <= fBegin f by omega), decide_eq_false b] at hK; exact hK
 ·rw [h, decide_eq_true (show (r.1.length : Int) <= fBegin f by omega), decide_eq_true b, c] at hK; exact hK
 ·rw [h, decide_eq_true (show (r.1.length : Int) <= fBegin f by omega), decide_eq_true b, c] at hK; exact hK
theorem h48F (f : Fd) (r : Rn) (K : dens [.b] -> Prop) : ((okF f = true /\ bigR r) /\ K (allowB f r, ())) -> xfn1 Tryz.prog { f := [(33, fcLists), (34, fc66)], l2 := [(18, 0, lc48)] } 5 18 fc48 (f, r, ()) K := by
 intro ⟨⟨hf, hb1, hb2⟩, hK⟩
 rw [v48F]
 obtain ⟨k1, k2⟩ := allowB_split (K := fun b => K (b, ())) hK
 simp only [fork_iff, req_iff, decide_eq_true_eq, decide_eq_false_iff_not, bne_len, bne_len', Bool.not_eq_true', Bool.not_eq_false']
 dsimp only [fBegin] at *
 refine ⟨⟨hb1, okF_big hf⟩, fun a => k1 a, fun a => ⟨fun b => (k2 a).1 b, fun b => ⟨fun c => ((k2 a).2 b).1 c, fun c => ⟨⟨hf, hb1, listsB_in a⟩, fun s hs ht => ⟨hs, hs, ⟨hf, by omega, by omega, trivial, c, hs, fun k g0 g1 => ?_⟩, ?_⟩⟩⟩⟩⟩
 ·have e := take_getD ht k.toNat (by dsimp only [fGroups]; omega)
  unfold sOk; rw [e]; exact startsL_ok hf _ g0 (by dsimp only [fGroups]; omega)
 ·rw [rowsOk_congr (t := startsL f r.1) fun k hk => take_getD ht k (by dsimp only [fGroups]; omega)]
  exact ((k2 a).2 b).2 c
theorem ok48 : FnOk Tryz.prog 18 fc48 := fn1_of (n := 5) ((((good2_nil _).addL2 ok48a).addF ok66).addF ok65) fun (f, r, ()) K hx => h48F f r K hx
end Go.P9
