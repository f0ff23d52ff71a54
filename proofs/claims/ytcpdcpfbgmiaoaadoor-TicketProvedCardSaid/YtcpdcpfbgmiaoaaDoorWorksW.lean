import Derived.Test.YtcpdcpfbgmiaoaaDoorRollH
import Derived.Test.YtcpdcpfbgmiaoaaDoorCodeS
set_option linter.all false
/- works() of chapter 3 returns true. No conditions. -/
set_option maxRecDepth 1000000
set_option maxHeartbeats 4000000
namespace Go.P3
open Go.Lom Go.Proofs Go
theorem good2_un (n : Nat) : Good2 Tryd.prog { un := n } := ⟨fun k avs H nx R h => h.elim, fun k j σ K h => h.elim, fun e h => by simp at h, fun e h => by simp at h⟩
abbrev tw1 : Tx := [49, 50, 51, 52, 53, 54, 55, 56, 56, 57]
abbrev tw2 : Tx := [48, 48, 48, 48, 48, 48, 48, 49, 63, 63]
abbrev ew1 : List Int := [1, 2, 3, 4, 5, 6, 7, 8]
abbrev ew2 : List Int := [1, 2, 3, -1, 5, -1, -1, 8]
abbrev ew3 : List Int := [8, 7, 6, 5, 4, 3, 2, 1]
abbrev fcK14 : FC := ⟨[.v I], [.s, I], fun x K => x.1 = (12345678 : Int) /\ K (tw1, 0, ())⟩
abbrev fcK18 : FC := ⟨[.v .s], [L, I], fun x K => x.1 = tw2 /\ K ([1], 0, ())⟩
abbrev fcK22 : FC := ⟨[.v L, .v L], [I, I], fun x K => (x.1 = ew1 /\ x.2.1 = ew2) /\ K (5, 0, ())⟩
abbrev fcK24 : FC := ⟨[.v L, .v (.sl L)], [I, I], fun x K => (x.1 = ew1 /\ x.2.1 = [ew2, ew1, ew3]) /\ K (1, 0, ())⟩
abbrev fcNumK : FC := ⟨[.v .s], [I, I], fun x K => K ((numberI x.1).1, (numberI x.1).2, ())⟩
theorem v14U (K : dens [.s, I] -> Prop) : xfn1 Tryd.prog { un := 1064 } 6 14 fcK14 (12345678, ()) K = K (tw1, 0, ()) := by kernel_rfl
theorem v22U (K : dens [I, I] -> Prop) : xfn1 Tryd.prog { un := 1064 } 6 22 fcK22 (ew1, ew2, ()) K = K (5, 0, ()) := by kernel_rfl
theorem v24U (K : dens [I, I] -> Prop) : xfn1 Tryd.prog { un := 1064 } 6 24 fcK24 (ew1, [ew2, ew1, ew3], ()) K = K (1, 0, ()) := by kernel_rfl
abbrev fcDoK : FC2 := ⟨preDo, 5, postDo, 8, fun ((w, d0, ts, es, rdy, _), k, (c, h, ps, eds, d, cs, pl, _), _) K => preD w d0 ts es rdy k h ps eds cs pl /\
 ∀ (c1 : Tx) (h1 : List Int) (ps1 : List Tx) (eds1 : List (List Int)) (dd1 : Int),
  K (((doC k (w, d0, ts, es) c h ps eds d).1.1, (doC k (w, d0, ts, es) c h ps eds d).1.2.1, (doC k (w, d0, ts, es) c h ps eds d).1.2.2.1, (doC k (w, d0, ts, es) c h ps eds d).1.2.2.2, true, ()), (), (c1, h1, ps1, eds1, dd1, (doC k (w, d0, ts, es) c h ps eds d).2.1, (doC k (w, d0, ts, es) c h ps eds d).2.2.1, ()), (doC k (w, d0, ts, es) c h ps eds d).2.2.2, ())⟩
theorem okDoK : F2Ok Tryd.prog 86 fcDoK := fun ((w, d0, ts, es, rdy, ()), k, (c, h, ps, eds, d, cs, pl, ()), ()) K hx =>
 ok86 ((w, d0, ts, es, rdy, ()), k, (c, h, ps, eds, d, cs, pl, ()), ()) K ⟨hx.1, fun w1 d1 ts1 es1 c1 h1 ps1 eds1 dd1 cs1 pl1 e he => by
  have := hx.2 c1 h1 ps1 eds1 dd1
  rw [<- he] at this
  exact this⟩
theorem okNumK : FnOk Tryd.prog 16 fcNumK := fun x K hx => okNumX x K fun r e he => by
 have h : K ((numberI x.1).1, (numberI x.1).2, ()) := hx
 rw [<- he] at h; exact h
theorem v18U (K : dens [L, I] -> Prop) : xfn1 Tryd.prog { un := 1064, f := [(16, fcNumK)] } 6 18 fcK18 (tw2, ()) K = K ([1], 0, ()) := by kernel_rfl
end Go.P3

/- works() of chapter 3: with contracts. No conditions. -/
set_option maxRecDepth 1000000
set_option maxHeartbeats 4000000
namespace Go.P3
open Go.Lom Go.Proofs Go
abbrev fcLineK : FC2 := ⟨A [.box 0 (rollC 1 2), .v .s], 3, A [.box 0 (rollC 3 4), .any, .v L, .v I], 5, fun ((w, d0, ts, es, rdy, _), p, _) K => (okR (w, d0, ts, es) /\ rdy = true) /\
 K ((w, d0, ts, es, true, ()), (), (lineI (w, d0, ts, es) p).1, (lineI (w, d0, ts, es) p).2, ())⟩
theorem okLineK : F2Ok Tryd.prog 44 fcLineK := fun ((w, d0, ts, es, rdy, ()), p, ()) K hx => ok44 ((w, d0, ts, es, rdy, ()), p, ()) K ⟨hx.1, fun s e he => by
 have := hx.2
 rw [<- he] at this
 exact this⟩
abbrev fcLiveK : FC2 := ⟨A [.box 0 (rollC 1 2), .v .s], 3, A [.box 0 (rollC 3 4), .any, .v .s, .v I], 5, fun ((w, d0, ts, es, rdy, _), p, _) K => (okR (w, d0, ts, es) /\ rdy = true) /\
 K ((w, d0, ts, es, true, ()), (), (liveI (w, d0, ts, es) p).1, (liveI (w, d0, ts, es) p).2, ())⟩
theorem okLiveK : F2Ok Tryd.prog 48 fcLiveK := fun ((w, d0, ts, es, rdy, ()), p, ()) K hx => ok48 ((w, d0, ts, es, rdy, ()), p, ()) K ⟨hx.1, fun s e he => by
 have := hx.2
 rw [<- he] at this
 exact this⟩
abbrev preP (s : RS) (k : Int) (h : List Int) (ps : List Tx) (eds : List (List Int)) : Prop := preD s.1 s.2.1 s.2.2.1 s.2.2.2 true k h ps eds [] []
abbrev ada : Tx := [97, 100, 97]
abbrev cw1 : Tx := [48, 48, 48, 48, 48, 48, 48, 49, 57, 53]
abbrev cw2 : Tx := [48, 48, 48, 48, 48, 48, 48, 50, 57, 50]
abbrev s0 : RS := (10, 0, [], [])
abbrev r1 : RS := (doC 1 s0 [] [] [ada] [ew1] 3).1
abbrev r2 : RS := (doC 2 r1 cw1 [] [] [] 5).1
abbrev r3 : RS := (doC 6 r2 cw1 ew2 [] [] 6).1
abbrev r4 : RS := (doC 4 r3 cw1 [] [] [ew3] 14).1
abbrev r5 : RS := (doC 4 r4 cw1 [] [] [ew3] 15).1
abbrev r6 : RS := (doC 6 r5 cw1 ew2 [] [] 15).1
abbrev r7 : RS := (doC 6 r6 cw2 ew3 [] [] 15).1
abbrev all5 (p : Prop) : Prop := ∀ (c1 : Tx) (h1 : List Int) (ps1 : List Tx) (eds1 : List (List Int)) (dd1 : Int), p
theorem v21W (K : dens [.b] -> Prop) : xfn1 Tryd.prog { fz := true, f := [(14, fcK14), (18, fcK18), (22, fcK22), (24, fcK24), (16, fcNumK), (20, fcSame), (49, fcWith)], f2 := [(86, fcDoK), (48, fcLiveK), (44, fcLineK)] } 8 21 fcWorks () K =
 ((12345678 : Int) = 12345678 /\ tw2 = tw2 /\ (ew1 = ew1 /\ ew2 = ew2) /\ (ew1 = ew1 /\ [ew2, ew1, ew3] = [ew2, ew1, ew3]) /\ (([1] : List Int) = [1] /\ (1 : Nat) <= 100000) /\ preP s0 1 [] [ada] [ew1] /\ all5 (preP r1 2 [] [] [] /\ all5 (preP r2 6 ew2 [] [] /\ all5 (preP r3 4 [] [] [ew3] /\ all5 (preP r4 4 [] [] [ew3] /\ all5 (preP r5 6 ew2 [] [] /\ all5 (preP r6 6 ew3 [] [] /\ all5 ((okR r7 /\ true = true) /\ (okR r7 /\ true = true) /\ (([2, 1] : List Int) = [2, 1] /\ (2 : Nat) <= 100000) /\ K (true, ()))))))))) := by kernel_rfl
end Go.P3
