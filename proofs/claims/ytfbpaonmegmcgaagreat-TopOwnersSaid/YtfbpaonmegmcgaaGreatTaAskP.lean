/- Funds: what is asked for the rest to go well: the code keeps its contract. No conditions. -/
import Derived.Test.YtfbpaonmegmcgaaGreatTaAskS
import Derived.Test.YtfbpaonmegmcgaaGreatTaSoundP
set_option linter.all false
set_option maxRecDepth 100000
namespace Go.P9
open Go.Lom Go.Proofs Go
theorem ixA {d k : Int} (h0 : 0 <= d) (h1 : 0 <= k) : 0 + addN (d.toNat * 65) k.toNat = (65 * d + k).toNat := by rw [addN_eq]; omega
theorem cellA_set {a : List Int} {d k d' k' x : Int} (ha : a.length = 845) (h0 : 0 <= d) (h1 : d < 13) (h2 : 0 <= k) (h3 : k < 65) (g0 : 0 <= d') (g2 : 0 <= k') (g3 : k' < 65) :
  cellA (a.set (65 * d + k).toNat x) d' k' = if d' = d /\ k' = k then x else cellA a d' k' := by
 unfold cellA
 rw [getD_set (by omega)]
 by_cases h : d' = d /\ k' = k
 ·rw [if_pos h, if_pos (by rw [h.1, h.2])]
 ·rw [if_neg h, if_neg (by omega)]
theorem prF_bd {f : Fd} (hf : okF f = true) (t : Int) : 0 <= prF f t /\ prF f t <= 1048576 := by
 have hA := okA_iff.1 (okF_parts hf).1
 by_cases h : t.toNat < (fPrices f).length
 ·have := price_bd hf (i := ((t.toNat : Nat) : Int)) (by omega) (by omega)
  rw [Int.toNat_natCast] at this
  exact ⟨this.1, by show ((fPrices f).getD t.toNat (0, 0)).1 <= _; omega⟩
 ·unfold prF
  rw [List.getD_eq_getElem?_getD, List.getElem?_eq_none (by omega)]
  simp
theorem slF_bd {f : Fd} (hf : okF f = true) (t : Int) : 0 <= slF f t /\ slF f t <= 64 := by
 have hA := okA_iff.1 (okF_parts hf).1
 by_cases h : t.toNat < (fSell f).length
 ·have := (dayOk_iff.1 (day_at hf (i := ((t.toNat : Nat) : Int)) (by omega) (by omega))).2.2.1
  rw [Int.toNat_natCast] at this
  exact this
 ·unfold slF
  rw [List.getD_eq_getElem?_getD, List.getElem?_eq_none (by omega)]
  simp
theorem bdF {f : Fd} (hf : okF f = true) : Bd (prF f) (slF f) := ⟨fun t => (prF_bd hf t).1, fun t => (prF_bd hf t).2, fun t => (slF_bd hf t).1, fun t => (slF_bd hf t).2⟩
theorem askF_end {f : Fd} {ns : List Int} {B d k : Int} {ex : Bool} (hd : d = ns.length) : askF f ns B ex d k = if ex && decide (k < B) then 1152921504606846976 else -1152921504606846976 := by
 unfold askF
 rw [List.drop_eq_nil_of_le (by omega)]
 rfl
theorem askF_step {f : Fd} {ns : List Int} {B d k : Int} {ex : Bool} (h0 : 0 <= d) (h1 : d < ns.length) : askF f ns B ex d k = askM (fun n => askF f ns B ex (d + 1) (k + n)) (ns.getD d.toNat 0) (prF f d) (remC f B d k 0) 0 1152921504606846976 := by
 unfold askF
 rw [drop_step 0 h0 h1]
 simp only [askV]
 unfold remC askC
 rw [Int.sub_zero]
theorem h76a (ns : List Int) (B : Int) (ex : Bool) (f : Fd) (z a : List Int) (last m k : Int) (Q : LQ) : s76a ns B ex f z a last m k Q -> xloop2 Tryz.prog {} 5 22 0 lc76a (fun _ => some (sh76e, 3)) (fun (_, _, _, _, _, _, _, m, k, _) => (m - k).toNat) (ns, B, ex, f, z, a, last, m, k, ()) Q := by
 intro ⟨⟨hN, hz, ha, hl, hm, h0, h1, hr⟩, hQ⟩
 rw [v76a]
 obtain ⟨hf, n12, nl, b0, b1, nb⟩ := id hN
 rw [ixA (by omega) h0]
 have go : ∀ x, k <= B -> x = askF f ns B ex last k -> (m - (k + 1)).toNat < (m - k).toNat /\ LC2.spec lc76a (ns, B, ex, f, z, a.set (65 * last + k).toNat x, last, m, k + 1, ()) Q := fun x hk hx =>
  ⟨by omega, show s76a ns B ex f z _ last m (k + 1) Q from ⟨⟨hN, hz, by rw [List.length_set]; exact ha, hl, hm, by omega, by omega, fun j j0 j1 => by
   rw [cellA_set ha (by omega) (by omega) h0 (by omega) (by omega) j0 (by omega)]
   by_cases e : j = k
   ·rw [if_pos ⟨rfl, e⟩, hx, e]
   ·rw [if_neg (fun c => e c.2)]; exact hr j j0 (by omega)⟩, hQ⟩⟩
 rw [askF_end hl] at go
 simp only [fork_iff, req_iff, decide_eq_true_eq, decide_eq_false_iff_not, List.length_set, List.set_set]
 refine ⟨fun hk => ⟨⟨by omega, by omega⟩, ⟨h0, by omega⟩, by omega, fun he => ⟨fun hb => ⟨⟨by omega, by omega⟩, ⟨h0, by omega⟩, by omega, inR_i64.2 (by omega), go _ (by omega) ?_⟩, fun hb => ⟨inR_i64.2 (by omega), go _ (by omega) ?_⟩⟩, fun he => ⟨inR_i64.2 (by omega), go _ (by omega) ?_⟩⟩, fun hk => hQ a ⟨ha, fun d j d0 d1 j0 j1 => ?_⟩⟩
 ·rw [he, decide_eq_true hb]; rfl
 ·rw [he, decide_eq_false hb]; rfl
 ·rw [he]; rfl
 ·rw [show d = last by omega]; exact hr j j0 (by omega)
theorem ok76a : Lp2Ok Tryz.prog 22 0 lc76a := lp2_of (n := 5) (ex := fun _ => some (sh76e, 3)) (m := fun (_, _, _, _, _, _, _, m, k, _) => (m - k).toNat) (good2_nil _) fun (ns, B, ex, f, z, a, last, m, k, ()) Q hx => h76a ns B ex f z a last m k Q hx
theorem h76d (ex : Bool) (ns : List Int) (B : Int) (f : Fd) (z a : List Int) (day k n m k' : Int) (Q : LQ) : s76d ex ns B f z a day k n m k' Q -> xloop2 Tryz.prog {} 5 22 3 (lc76d ex) (fun _ => some (sh76c, 3)) (fun (_, _, _, _, _, _, _, n, _, _, _) => (66 - n).toNat) (ns, B, f, z, a, day, k, n, m, k', ()) Q := by
 intro ⟨⟨hN, hR, h0, h1, h2, h3, h4, h5, h6, h7, h8, h9⟩, hQ⟩
 rw [v76d]
 obtain ⟨hf, n12, nl, b0, b1, nb⟩ := id hN
 have ha := hR.1
 have hA := okA_iff.1 (okF_parts hf).1
 have hs := slF_bd hf day
 have hp := prF_bd hf day
 have hnb := nb _ (getD_mem (d := ns) (i := day.toNat) (by omega) 0)
 have fin : ¬ (n <= slF f day /\ k + n <= B) -> Q (.exit 6) (stS 3 sh76c (ns, B, f, z, a, day, m, k', ())) := fun h => by
  refine hQ a ha (fun d j _ _ _ _ => rfl) ?_
  have : remC f B day k n = 0 := by unfold remC minI; split <;> omega
  rw [this]; rfl
 have hrem : n <= slF f day -> k + n <= B -> remC f B day k n = remC f B day k (n + 1) + 1 := fun g1 g2 => by unfold remC minI; split <;> omega
 have hx : k + n <= B -> a.getD (65 * (day + 1) + (k + n)).toNat 0 = askF f ns B ex (day + 1) (k + n) := fun g => hR.2 (day + 1) (k + n) (by omega) (by omega) (by omega) g
 have hcur : a.getD (65 * day + k).toNat 0 = cellA a day k := rfl
 have hmul : n <= slF f day -> 0 <= n * prF f day /\ n * prF f day <= 67108864 := fun g => mul64 (bdF hf) h4 g
 rw [ixA (by omega) h2, ixA (by omega) (by omega), hcur]
 have hlp : (day : Int) < f.2.2.2.2.1.length := by have := hA; dsimp only [fPrices, fIn] at *; omega
 have hls : (day : Int) < f.2.2.2.1.length := by have := hA; dsimp only [fSell, fIn] at *; omega
 simp only [fork_iff, req_iff, decide_eq_true_eq, decide_eq_false_iff_not, List.length_set]
 refine ⟨⟨h0, hls⟩, fun c1 => ⟨inR_i64.2 (by omega), fun c2 => ⟨inR_i64.2 (by omega), inR_i64.2 (by omega), ⟨by omega, by omega⟩, ⟨by omega, by omega⟩, by omega, fun c3 => ?_, fun c3 => ?_⟩, fun c2 => fin (fun h => c2 h.2)⟩, fun c1 => fin (fun h => c1 h.1)⟩
 ·have c1' : n <= slF f day := c1
  have hm := hmul c1'
  rw [hx c2] at c3 ⊢
  have hnew : a.set (65 * day + k).toNat (minI (cellA a day k) (maxI (ns.getD day.toNat 0) (askF f ns B ex (day + 1) (k + n)) - n * prF f day)) = a.set (65 * day + k).toNat (minI (cellA a day k) (maxI (ns.getD day.toNat 0) (askF f ns B ex (day + 1) (k + n)) - n * prF f day)) := rfl
  have hge : -1125899906842624 <= maxI (ns.getD day.toNat 0) (askF f ns B ex (day + 1) (k + n)) /\ maxI (ns.getD day.toNat 0) (askF f ns B ex (day + 1) (k + n)) <= 1152921504606846976 := by unfold maxI; split <;> omega
  have hmin : -1152921504606846976 <= minI (cellA a day k) (maxI (ns.getD day.toNat 0) (askF f ns B ex (day + 1) (k + n)) - n * prF f day) /\ minI (cellA a day k) (maxI (ns.getD day.toNat 0) (askF f ns B ex (day + 1) (k + n)) - n * prF f day) <= 1152921504606846976 := by unfold minI; split <;> omega
  refine ⟨⟨h0, by omega⟩, ⟨h2, by omega⟩, by omega, ⟨h0, h1⟩, ⟨h0, hlp⟩, inR_i64.2 (show -9223372036854775808 <= n * prF f day /\ n * prF f day <= 9223372036854775807 by omega), inR_i64.2 (show -9223372036854775808 <= maxI (ns.getD day.toNat 0) (askF f ns B ex (day + 1) (k + n)) - n * prF f day /\ maxI (ns.getD day.toNat 0) (askF f ns B ex (day + 1) (k + n)) - n * prF f day <= 9223372036854775807 by omega), ⟨h0, by omega⟩, ⟨h2, by omega⟩, by omega, inR_i64.2 (by omega), by show (66 - (n + 1)).toNat < (66 - n).toNat; omega, ?_⟩
  show s76d ex ns B f z (a.set (65 * day + k).toNat (minI (cellA a day k) (maxI (ns.getD day.toNat 0) (askF f ns B ex (day + 1) (k + n)) - n * prF f day))) day k (n + 1) m k' Q
  generalize hv : minI (cellA a day k) (maxI (ns.getD day.toNat 0) (askF f ns B ex (day + 1) (k + n)) - n * prF f day) = v at hmin ⊢
  have hset : cellA (a.set (65 * day + k).toNat v) day k = v := by rw [cellA_set ha h0 (by omega) h2 (by omega) h0 h2 (by omega), if_pos ⟨rfl, rfl⟩]
  refine ⟨⟨hN, ⟨by rw [List.length_set]; exact ha, fun d j d0 d1 j0 j1 => ?_⟩, h0, h1, h2, h3, by omega, by omega, by omega, by omega, by omega, by omega⟩, fun a' l' o' e' => hQ a' l' (fun d j d0 j0 j1 hne => ?_) ?_⟩
  ·rw [cellA_set ha h0 (by omega) h2 (by omega) (by omega) j0 (by omega), if_neg (by omega)]
   exact hR.2 d j d0 d1 j0 j1
  ·rw [o' d j d0 j0 j1 hne, cellA_set ha h0 (by omega) h2 (by omega) d0 j0 j1, if_neg hne]
  ·rw [e', hset, hrem c1' c2]
   simp only [askM]
   rw [if_pos c3, hv]
 ·refine ⟨inR_i64.2 (by omega), by show (66 - (n + 1)).toNat < (66 - n).toNat; omega, show s76d ex ns B f z a day k (n + 1) m k' Q from ⟨⟨hN, hR, h0, h1, h2, h3, by omega, by have : n <= slF f day := c1; omega, by omega, by have : n <= slF f day := c1; omega, h8, h9⟩, fun a' l' o' e' => hQ a' l' o' ?_⟩⟩
  rw [hx c2] at c3
  rw [e', hrem c1 c2]
  simp only [askM]
  rw [if_neg c3]
theorem ok76d (ex : Bool) : Lp2Ok Tryz.prog 22 3 (lc76d ex) := lp2_of (n := 5) (ex := fun _ => some (sh76c, 3)) (m := fun (_, _, _, _, _, _, _, n, _, _, _) => (66 - n).toNat) (good2_nil _) fun (ns, B, f, z, a, day, k, n, m, k', ()) Q hx => h76d ex ns B f z a day k n m k' Q hx
theorem h76c (ex : Bool) (ns : List Int) (B : Int) (f : Fd) (z a : List Int) (day m k : Int) (Q : LQ) : s76c ex ns B f z a day m k Q -> xloop2 Tryz.prog { l2 := [(22, 3, lc76d ex)] } 5 22 2 (lc76c ex) (fun _ => some (shAll, 3)) (fun (_, _, _, _, _, _, m, k, _) => (m - k).toNat) (ns, B, f, z, a, day, m, k, ()) Q := by
 intro ⟨⟨hN, hR, h0, h1, hm, h2, h3, hr⟩, hQ⟩
 rw [v76c]
 obtain ⟨hf, n12, nl, b0, b1, nb⟩ := id hN
 have ha := hR.1
 have hs := slF_bd hf day
 rw [ixA h0 h2]
 simp only [fork_iff, req_iff, decide_eq_true_eq, decide_eq_false_iff_not, List.length_set]
 refine ⟨fun hk => ?_, fun hk => hQ a ⟨ha, fun d j d0 d1 j0 j1 => ?_⟩⟩
 ·have hset : cellA (a.set (65 * day + k).toNat 1152921504606846976) day k = 1152921504606846976 := by rw [cellA_set ha h0 (by omega) h2 (by omega) h0 h2 (by omega), if_pos ⟨rfl, rfl⟩]
  rw [hset]
  refine ⟨⟨h0, by omega⟩, ⟨h2, by omega⟩, by omega, ⟨hN, ⟨by rw [List.length_set]; exact ha, fun d j d0 d1 j0 j1 => ?_⟩, h0, h1, h2, by omega, by omega, by omega, by omega, by omega, by omega, by omega⟩, fun a' l' o' e' => ⟨inR_i64.2 (by omega), by omega, show s76c ex ns B f z a' day m (k + 1) Q from ⟨⟨hN, ⟨l', fun d j d0 d1 j0 j1 => ?_⟩, h0, h1, hm, by omega, by omega, fun j j0 j1 => ?_⟩, hQ⟩⟩⟩
  ·rw [cellA_set ha h0 (by omega) h2 (by omega) (by omega) j0 (by omega), if_neg (by omega)]
   exact hR.2 d j d0 d1 j0 j1
  ·rw [o' d j (by omega) j0 (by omega) (by omega), cellA_set ha h0 (by omega) h2 (by omega) (by omega) j0 (by omega), if_neg (by omega)]
   exact hR.2 d j d0 d1 j0 j1
  ·by_cases e : j = k
   ·rw [e, e', askF_step h0 h1]
   ·rw [o' day j h0 j0 (by omega) (fun c => e c.2), cellA_set ha h0 (by omega) h2 (by omega) h0 j0 (by omega), if_neg (fun c => e c.2)]
    exact hr j j0 (by omega)
 ·by_cases e : d = day
  ·rw [e]; exact hr j j0 (by omega)
  ·exact hR.2 d j (by omega) d1 j0 j1
theorem ok76c (ex : Bool) : Lp2Ok Tryz.prog 22 2 (lc76c ex) := lp2_of (n := 5) (ex := fun _ => some (shAll, 3)) (m := fun (_, _, _, _, _, _, m, k, _) => (m - k).toNat) ((good2_nil _).addL2 (ok76d ex)) fun (ns, B, f, z, a, day, m, k, ()) Q hx => h76c ex ns B f z a day m k Q hx
theorem h76b (ex : Bool) (ns : List Int) (B : Int) (f : Fd) (z a : List Int) (day : Int) (Q : LQ) : s76b ex ns B f z a day Q -> xloop2 Tryz.prog { l2 := [(22, 2, lc76c ex)] } 5 22 1 (lc76b ex) (fun _ => some (sh76f, 2)) (fun (_, _, _, _, _, day, _) => (day + 1).toNat) (ns, B, f, z, a, day, ()) Q := by
 intro ⟨⟨hN, hR, h0, h1⟩, hQ⟩
 rw [v76b]
 obtain ⟨hf, n12, nl, b0, b1, nb⟩ := id hN
 simp only [fork_iff, req_iff, decide_eq_true_eq, decide_eq_false_iff_not]
 refine ⟨fun hd => ⟨inR_i64.2 (by omega), ⟨hN, hR, by omega, h1, trivial, by omega, by omega, fun j _ _ => by omega⟩, fun a' r' => ⟨inR_i64.2 (by omega), by show (day - 1 + 1).toNat < (day + 1).toNat; omega, show s76b ex ns B f z a' (day - 1) Q from ⟨⟨hN, by rw [show day - 1 + 1 = day by omega]; exact r', by omega, by omega⟩, hQ⟩⟩⟩, fun hd => hQ a ?_⟩
 rw [show day + 1 = 0 by omega] at hR
 exact hR
theorem ok76b (ex : Bool) : Lp2Ok Tryz.prog 22 1 (lc76b ex) := lp2_of (n := 5) (ex := fun _ => some (sh76f, 2)) (m := fun (_, _, _, _, _, day, _) => (day + 1).toNat) ((good2_nil _).addL2 (ok76c ex)) fun (ns, B, f, z, a, day, ()) Q hx => h76b ex ns B f z a day Q hx
theorem ok76 (ex : Bool) : FnOk Tryz.prog 22 (fcAsk ex) := fn1_of (n := 5) (((good2_nil _).addL2 (ok76b ex)).addL2 ok76a) fun (f, ns, B, e, ()) K hx => by
 obtain ⟨⟨hN, he⟩, hK⟩ := hx
 have he : e = ex := he
 subst he
 have hN : needB f ns B := hN
 obtain ⟨hf, n12, nl, b0, b1, nb⟩ := id hN
 rw [v76F]
 simp only [req_iff, decide_eq_true_eq]
 refine ⟨inR_i64.2 (by omega), ⟨hN, trivial, trivial, trivial, trivial, by omega, by omega, fun j j0 j1 => by omega⟩, fun a' r' => ⟨inR_i64.2 (by omega), ⟨hN, by rw [show ((ns.length : Nat) : Int) - 1 + 1 = ns.length by omega]; exact r', by omega, by omega⟩, fun a'' r'' => ?_⟩⟩
 have hl := r''.1
 exact ⟨hl, hl, hl, hl, hl, hK a'' r''⟩
end Go.P9
