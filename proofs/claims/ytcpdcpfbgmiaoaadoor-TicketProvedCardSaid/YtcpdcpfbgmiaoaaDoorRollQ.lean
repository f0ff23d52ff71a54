/- Rolls: a call of a roll: the code keeps its contract. No conditions. -/
import Derived.Test.YtcpdcpfbgmiaoaaDoorRollP1
import Derived.Test.YtcpdcpfbgmiaoaaDoorRollP2
import Derived.Test.YtcpdcpfbgmiaoaaDoorRollP3
import Derived.Test.YtcpdcpfbgmiaoaaDoorRollP4
set_option linter.all false
set_option maxRecDepth 100000
namespace Go.P3
open Go.Lom Go.Proofs Go
theorem fn2_ex {P : Program} {k : Nat} {c : FC2} (h : ∀ x K, c.spec x K -> ∃ T n, Good2 P T /\ xfn2 P T n k c x K) : F2Ok P k c :=
 f2_of fun x K hx => by
  obtain ⟨T, n, hT, h⟩ := h x K hx
  unfold xfn2 at h
  exact xinl_ok (xcall_ok hT.tab n) (fun fn fb hf hb => hT.tab.lp k fn fb hf hb) h
theorem kind7 (k : Int) (h8 : 1 <= k) (h9 : k <= 7) : k = 1 \/ k = 2 \/ k = 3 \/ k = 4 \/ k = 5 \/ k = 6 \/ k = 7 := by omega
theorem ok86 : F2Ok Tryd.prog 86 fcDo := fn2_ex fun ((wt, dy, ts, es, rdy, ()), k, (c, h, ps, eds, d, cs, pl, ()), ()) K hx => by
 obtain ⟨hp, hK⟩ := hx
 obtain ⟨h1, h2, h3, h4, h5, h6, h7, ⟨h8, h9⟩, h10, h11⟩ := id hp
 have h2 : rdy = true := h2
 have h4 : cs = [] := h4
 have h5 : pl = [] := h5
 subst h2 h4 h5
 have hk := kind7 k h8 h9
 rcases hk with rfl | rfl | rfl | rfl | rfl | rfl | rfl
 ·exact ⟨TB, 8, goodTB, h86_1 wt dy d ts es c h ps eds K hp hK⟩
 ·exact ⟨TB, 8, goodTB, h86_2 wt dy d ts es c h ps eds K hp hK⟩
 ·exact ⟨TB, 8, goodTB, h86_3 wt dy d ts es c h ps eds K hp hK⟩
 ·exact ⟨TB, 8, goodTB, h86_4 wt dy d ts es c h ps eds K hp hK⟩
 ·exact ⟨TBe, 8, goodTBe, h86_5 wt dy d ts es c h ps eds K hp hK⟩
 ·exact ⟨TB, 8, goodTB, h86_6 wt dy d ts es c h ps eds K hp hK⟩
 ·exact ⟨TB, 8, goodTB, h86_7 wt dy d ts es c h ps eds K hp hK⟩
end Go.P3
