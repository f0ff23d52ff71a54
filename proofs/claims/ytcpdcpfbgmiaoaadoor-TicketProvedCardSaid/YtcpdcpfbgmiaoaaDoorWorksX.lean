/- works() of chapter 3 returns true. No conditions. -/
import Derived.Test.YtcpdcpfbgmiaoaaDoorWorksW
import Derived.Test.YtcpdcpfbgmiaoaaDoorPropL
import Derived.Test.YtcpdcpfbgmiaoaaDoorFitP
set_option linter.all false
set_option maxRecDepth 1000000
set_option maxHeartbeats 4000000
namespace Go.P3
open Go.Lom Go.Proofs Go
theorem preP_of {s : RS} {k : Int} {h : List Int} {ps : List Tx} {eds : List (List Int)} (hs : okR s) (hr : fitsN (s.2.2.2.length + 1) 40 = true) (hp : ps.length <= 1 /\ ∀ p ∈ ps, p.length <= 3) (he : eds.length <= 1) (hk : 1 <= k /\ k <= 7)
  (h1 : k = 1 -> 1 <= ps.length) (h2 : k = 1 \/ k = 4 -> 1 <= eds.length) : preP s k h ps eds :=
 ⟨hs, rfl, hr, rfl, rfl, ⟨Nat.le_trans hp.1 (by decide), fun p hp' => Nat.le_trans (hp.2 p hp') (by decide)⟩, Nat.le_trans he (by decide), hk, h1, h2⟩
theorem no_names : ([] : List Tx).length <= 1 /\ ∀ p ∈ ([] : List Tx), p.length <= 3 := ⟨by decide, fun p hp => by simp at hp⟩
theorem oq0 : okR s0 := okR_start ⟨by decide, by decide⟩
theorem oq1 : okR r1 := (doC_leaves oq0 ⟨by decide, by decide⟩).ok
theorem oq2 : okR r2 := (doC_leaves oq1 ⟨by decide, by decide⟩).ok
theorem oq3 : okR r3 := (doC_leaves oq2 ⟨by decide, by decide⟩).ok
theorem oq4 : okR r4 := (doC_leaves oq3 ⟨by decide, by decide⟩).ok
theorem oq5 : okR r5 := (doC_leaves oq4 ⟨by decide, by decide⟩).ok
theorem oq6 : okR r6 := (doC_leaves oq5 ⟨by decide, by decide⟩).ok
theorem oq7 : okR r7 := (doC_leaves oq6 ⟨by decide, by decide⟩).ok
theorem ok14K : FnOk Tryd.prog 14 fcK14 := fn1_of (n := 6) (good2_un 1064) fun (n, ()) K hx => by
 obtain ⟨h, hK⟩ := hx
 have h : n = (12345678 : Int) := h
 subst h; rw [v14U]; exact hK
theorem ok18K : FnOk Tryd.prog 18 fcK18 := fn1_of (n := 6) ((good2_un 1064).addF okNumK) fun (s, ()) K hx => by
 obtain ⟨h, hK⟩ := hx
 have h : s = tw2 := h
 subst h; rw [v18U]; exact hK
theorem ok22K : FnOk Tryd.prog 22 fcK22 := fn1_of (n := 6) (good2_un 1064) fun (a, b, ()) K hx => by
 obtain ⟨⟨h1, h2⟩, hK⟩ := hx
 have h1 : a = ew1 := h1
 have h2 : b = ew2 := h2
 subst h1; subst h2; rw [v22U]; exact hK
theorem ok24K : FnOk Tryd.prog 24 fcK24 := fn1_of (n := 6) (good2_un 1064) fun (a, b, ()) K hx => by
 obtain ⟨⟨h1, h2⟩, hK⟩ := hx
 have h1 : a = ew1 := h1
 have h2 : b = [ew2, ew1, ew3] := h2
 subst h1; subst h2; rw [v24U]; exact hK
theorem good2_fz : Good2 Tryd.prog { fz := true } := ⟨fun k avs H nx R h => h.elim, fun k j σ K h => h.elim, fun e h => by simp at h, fun e h => by simp at h⟩
theorem okWorks : FnOk Tryd.prog 21 fcWorks := fn1_of (n := 8) ((((((((((good2_fz).addF2 okLineK).addF2 okLiveK).addF2 okDoK).addF ok49).addF ok20).addF okNumK).addF ok24K).addF ok22K).addF ok18K |>.addF ok14K) fun x K hK => by
 have hK : K (true, ()) := hK
 rw [v21W]
 have ha : ([ada] : List Tx).length <= 1 /\ ∀ p ∈ [ada], p.length <= 3 := ⟨by decide, fun p hp => by rw [List.mem_singleton] at hp; subst hp; decide⟩
 refine ⟨rfl, rfl, ⟨rfl, rfl⟩, ⟨rfl, rfl⟩, ⟨rfl, by decide⟩, preP_of oq0 (by kernel_rfl) ha (by decide) ⟨by decide, by decide⟩ (fun _ => by decide) (fun _ => by decide), fun _ _ _ _ _ => ⟨preP_of oq1 (by kernel_rfl) no_names (by decide) ⟨by decide, by decide⟩ (fun c => by cases c) (fun c => by rcases c with c | c <;> cases c), fun _ _ _ _ _ =>
  ⟨preP_of oq2 (by kernel_rfl) no_names (by decide) ⟨by decide, by decide⟩ (fun c => by cases c) (fun c => by rcases c with c | c <;> cases c), fun _ _ _ _ _ => ⟨preP_of oq3 (by kernel_rfl) no_names (by decide) ⟨by decide, by decide⟩ (fun c => by cases c) (fun _ => by decide), fun _ _ _ _ _ =>
  ⟨preP_of oq4 (by kernel_rfl) no_names (by decide) ⟨by decide, by decide⟩ (fun c => by cases c) (fun _ => by decide), fun _ _ _ _ _ => ⟨preP_of oq5 (by kernel_rfl) no_names (by decide) ⟨by decide, by decide⟩ (fun c => by cases c) (fun c => by rcases c with c | c <;> cases c), fun _ _ _ _ _ =>
  ⟨preP_of oq6 (by kernel_rfl) no_names (by decide) ⟨by decide, by decide⟩ (fun c => by cases c) (fun c => by rcases c with c | c <;> cases c), fun _ _ _ _ _ => ⟨⟨oq7, rfl⟩, ⟨oq7, rfl⟩, ⟨rfl, by decide⟩, hK⟩⟩⟩⟩⟩⟩⟩⟩
end Go.P3
