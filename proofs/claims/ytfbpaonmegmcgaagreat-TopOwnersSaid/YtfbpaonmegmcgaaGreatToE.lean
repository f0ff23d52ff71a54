/- TopOwners: its examples hold. No conditions. -/
import Derived.Test.YtfbpaonmegmcgaaGreatToJ
import Derived.Test.YtfbpaonmegmcgaaGreatToP
set_option linter.all false
set_option maxRecDepth 100000
set_option maxHeartbeats 400000
namespace Go.PT
open Go.Lom Go.Proofs Go Go.P9
abbrev T3 : Ty := .pr I (.pr I I)
abbrev TLo : Ty := .pr I (.pr I (.sl (.pr I I)))
abbrev Lo : Type := Int × Int × List (Int × Int)
abbrev I3 : Type := Int × Int × Int
abbrev fk59 : FC := ⟨[.v TLo, .v T3], [T3, .b], fun x K => whenB (decide ((x.1 : Lo) = (5, 0, [(0, 5)])) && decide ((x.2.1 : I3) = (3, 0, 20))) (K ((3, 0, 20), true, ()))⟩
abbrev fk43 : FC := ⟨[.v TLo, .v (.sl T3)], [.sl T3], fun x K => whenB (decide ((x.1 : Lo) = (5, 0, [(0, 5)])) && decide ((x.2.1 : List I3) = [(3, 0, 20)])) (K ([(3, 0, 20)], ()))⟩
abbrev fk27 : FC := ⟨[.v TLo, .v (.sl T3)], [.pr I I, E], fun x K => whenB (decide ((x.1 : Lo) = (5, 0, [(0, 5)])) && decide ((x.2.1 : List I3) = [(3, 0, 20)])) (K ((3, 5), 0, ()))⟩
theorem v59E (K : dens [T3, .b] -> Prop) : xfn1 Tryz.prog { un := 1064, fz := true } 60 59 fk59 ((5, 0, [(0, 5)]), (3, 0, 20), ()) K = (AV.int .i64 20 = AV.int .i64 20 /\ K ((3, 0, 20), true, ())) := by kernel_rfl
theorem v43E (K : dens [.sl T3] -> Prop) : xfn1 Tryz.prog { un := 1064, fz := true, f := [(59, fk59)] } 60 43 fk43 ((5, 0, [(0, 5)]), [(3, 0, 20)], ()) K = (K ([(3, 0, 20)], ()) /\ True) := by kernel_rfl
theorem v27E (K : dens [.pr I I, E] -> Prop) : xfn1 Tryz.prog { un := 1064, fz := true, f := [(43, fk43)] } 60 27 fk27 ((5, 0, [(0, 5)]), [(3, 0, 20)], ()) K = (AV.int .i64 3 = AV.int .i64 3 /\ AV.int .i64 3 = AV.int .i64 3 /\ K ((3, 5), 0, ())) := by kernel_rfl
theorem v67E (K : dens [.sl .s] -> Prop) : xfn1 Tryz.prog { un := 1064, fz := true } 60 67 fkOrd ([(txFox, true)], ()) K = (K ([txFox], ()) /\ True) := by kernel_rfl
theorem v29E (K : dens [.b] -> Prop) : xfn1 Tryz.prog { un := 1064, fz := true, f := [(67, fkOrd), (109, fkJoin)] } 60 29 fcOwn () K = K (true, ()) := by kernel_rfl
theorem v15E (K : dens [.b] -> Prop) : xfn1 Tryz.prog { un := 1064, fz := true, f := [(27, fk27), (29, fcOwn)] } 60 15 fcOwn () K = K (true, ()) := by kernel_rfl
theorem v6E (K : dens [.b] -> Prop) : xfn1 Tryz.prog { un := 1064, fz := true, f := [(4, fkCap), (15, fcOwn)] } 60 6 fcOwn () K = K (true, ()) := by kernel_rfl
theorem few_big {α : Type} {l : List α} (h : fewB l = true) : l.length <= 9223372036854775807 := Nat.le_trans (Nat.le_of_ble_eq_true h) (by decide)
theorem kk59 : FnOk Tryz.prog 59 fk59 := fn1_of (n := 60) (good2_nilF _ 1064) fun (a, b, ()) K hx => by
 obtain ⟨h, hK⟩ := whenB_iff.1 hx
 rw [Bool.and_eq_true] at h
 have e1 : (a : Lo) = (5, 0, [(0, 5)]) := of_decide_eq_true h.1
 have e2 : (b : I3) = (3, 0, 20) := of_decide_eq_true h.2
 subst e1 e2
 rw [v59E]; exact ⟨rfl, hK⟩
theorem kk43 : FnOk Tryz.prog 43 fk43 := fn1_of (n := 60) ((good2_nilF _ 1064).addF kk59) fun (a, b, ()) K hx => by
 obtain ⟨h, hK⟩ := whenB_iff.1 hx
 rw [Bool.and_eq_true] at h
 have e1 : (a : Lo) = (5, 0, [(0, 5)]) := of_decide_eq_true h.1
 have e2 : (b : List I3) = [(3, 0, 20)] := of_decide_eq_true h.2
 subst e1 e2
 show xfn1 Tryz.prog { un := 1064, fz := true, f := [(59, fk59)] } 60 43 fk43 ((5, 0, [(0, 5)]), [(3, 0, 20)], ()) K
 rw [v43E]; exact ⟨hK, trivial⟩
theorem kk27 : FnOk Tryz.prog 27 fk27 := fn1_of (n := 60) ((good2_nilF _ 1064).addF kk43) fun (a, b, ()) K hx => by
 obtain ⟨h, hK⟩ := whenB_iff.1 hx
 rw [Bool.and_eq_true] at h
 have e1 : (a : Lo) = (5, 0, [(0, 5)]) := of_decide_eq_true h.1
 have e2 : (b : List I3) = [(3, 0, 20)] := of_decide_eq_true h.2
 subst e1 e2
 show xfn1 Tryz.prog { un := 1064, fz := true, f := [(43, fk43)] } 60 27 fk27 ((5, 0, [(0, 5)]), [(3, 0, 20)], ()) K
 rw [v27E]; exact ⟨rfl, rfl, hK⟩
theorem kkOrd : FnOk Tryz.prog 67 fkOrd := fn1_of (n := 60) (good2_nilF _ 1064) fun (a, ()) K hx => by
 obtain ⟨h, hK⟩ := whenB_iff.1 hx
 have e1 : (a : List (Tx × Bool)) = [(txFox, true)] := of_decide_eq_true h
 subst e1
 rw [v67E]; exact ⟨hK, trivial⟩
theorem kkCap : FnOk Tryz.prog 4 fkCap := fun x K hx => by
 obtain ⟨h, hK⟩ := whenB_iff.1 hx
 simp only [Bool.and_eq_true] at h
 obtain ⟨h1, h2, h3, h4, h5, h6⟩ := h
 exact ok23 x K ⟨⟨few_big h1, few_big h2, few_big h3, few_big h4, few_big h5, few_big h6⟩, hK⟩
theorem kk29 : FnOk Tryz.prog 29 fcOwn := fn1_of (n := 60) (((good2_nilF _ 1064).addF kkJoin).addF kkOrd) fun x K hK => by
 have hK : K (true, ()) := hK
 show xfn1 Tryz.prog { un := 1064, fz := true, f := [(67, fkOrd), (109, fkJoin)] } 60 29 fcOwn () K
 rw [v29E]; exact hK
theorem kk15 : FnOk Tryz.prog 15 fcOwn := fn1_of (n := 60) (((good2_nilF _ 1064).addF kk29).addF kk27) fun x K hK => by
 have hK : K (true, ()) := hK
 show xfn1 Tryz.prog { un := 1064, fz := true, f := [(27, fk27), (29, fcOwn)] } 60 15 fcOwn () K
 rw [v15E]; exact hK
theorem kk6 : FnOk Tryz.prog 6 fcOwn := fn1_of (n := 60) (((good2_nilF _ 1064).addF kk15).addF kkCap) fun x K hK => by
 have hK : K (true, ()) := hK
 show xfn1 Tryz.prog { un := 1064, fz := true, f := [(4, fkCap), (15, fcOwn)] } 60 6 fcOwn () K
 rw [v6E]; exact hK
abbrev TFo : Ty := P9.TF
abbrev L : Ty := P9.L
theorem ok3' : FnOk Tryz.prog 3 fc3 := ok3 kk6
end Go.PT
