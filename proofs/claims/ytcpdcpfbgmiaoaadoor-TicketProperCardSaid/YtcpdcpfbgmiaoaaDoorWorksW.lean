/- works() of chapter 3: with contracts. No conditions. -/
import Derived.Test.YtcpdcpfbgmiaoaaDoorWorksV
set_option linter.all false
set_option maxRecDepth 1000000
set_option maxHeartbeats 4000000
namespace Go.P3
open Go.Lom Go.Proofs Go
abbrev fcLineK : FC2 := ⟨A [.box 0 (rollC 1 2), .v .s], 3, A [.box 0 (rollC 3 4), .any, .v L, .v I], 5, fun ((w, d0, ts, es, rdy, _), p, _) K => (okR (w, d0, ts, es) /\ rdy = true) /\
 K ((w, d0, ts, es, true, ()), (), (lineI (w, d0, ts, es) p).1, (lineI (w, d0, ts, es) p).2, ())⟩
theorem okLineK : F2Ok Tryd.prog 44 fcLineK := fun ((w, d0, ts, es, rdy, ()), p, ()) K hx => ok44 ((w, d0, ts, es, rdy, ()), p, ()) K ⟨hx.1, fun s e he => by
 have := hx.2
 rw [<- he] at this
 exact this⟩
abbrev fcLiveK : FC2 := ⟨A [.box 0 (rollC 1 2), .v .s], 3, A [.box 0 (rollC 3 4), .any, .v .s, .v I], 5, fun ((w, d0, ts, es, rdy, _), p, _) K => (okR (w, d0, ts, es) /\ rdy = true) /\
 K ((w, d0, ts, es, true, ()), (), (liveI (w, d0, ts, es) p).1, (liveI (w, d0, ts, es) p).2, ())⟩
theorem okLiveK : F2Ok Tryd.prog 48 fcLiveK := fun ((w, d0, ts, es, rdy, ()), p, ()) K hx => ok48 ((w, d0, ts, es, rdy, ()), p, ()) K ⟨hx.1, fun s e he => by
 have := hx.2
 rw [<- he] at this
 exact this⟩
abbrev preP (s : RS) (k : Int) (h : List Int) (ps : List Tx) (eds : List (List Int)) : Prop := preD s.1 s.2.1 s.2.2.1 s.2.2.2 true k h ps eds [] []
abbrev ada : Tx := [97, 100, 97]
abbrev cw1 : Tx := [48, 48, 48, 48, 48, 48, 48, 49, 57, 53]
abbrev cw2 : Tx := [48, 48, 48, 48, 48, 48, 48, 50, 57, 50]
abbrev s0 : RS := (10, 0, [], [])
abbrev r1 : RS := (doC 1 s0 [] [] [ada] [ew1] 3).1
abbrev r2 : RS := (doC 2 r1 cw1 [] [] [] 5).1
abbrev r3 : RS := (doC 6 r2 cw1 ew2 [] [] 6).1
abbrev r4 : RS := (doC 4 r3 cw1 [] [] [ew3] 14).1
abbrev r5 : RS := (doC 4 r4 cw1 [] [] [ew3] 15).1
abbrev r6 : RS := (doC 6 r5 cw1 ew2 [] [] 15).1
abbrev r7 : RS := (doC 6 r6 cw2 ew3 [] [] 15).1
abbrev all5 (p : Prop) : Prop := ∀ (c1 : Tx) (h1 : List Int) (ps1 : List Tx) (eds1 : List (List Int)) (dd1 : Int), p
theorem v21W (K : dens [.b] -> Prop) : xfn1 Tryd.prog { fz := true, f := [(14, fcK14), (18, fcK18), (22, fcK22), (24, fcK24), (16, fcNumK), (20, fcSame), (49, fcWith)], f2 := [(86, fcDoK), (48, fcLiveK), (44, fcLineK)] } 8 21 fcWorks () K =
 ((12345678 : Int) = 12345678 /\ tw2 = tw2 /\ (ew1 = ew1 /\ ew2 = ew2) /\ (ew1 = ew1 /\ [ew2, ew1, ew3] = [ew2, ew1, ew3]) /\ (([1] : List Int) = [1] /\ (1 : Nat) <= 100000) /\ preP s0 1 [] [ada] [ew1] /\ all5 (preP r1 2 [] [] [] /\ all5 (preP r2 6 ew2 [] [] /\ all5 (preP r3 4 [] [] [ew3] /\ all5 (preP r4 4 [] [] [ew3] /\ all5 (preP r5 6 ew2 [] [] /\ all5 (preP r6 6 ew3 [] [] /\ all5 ((okR r7 /\ true = true) /\ (okR r7 /\ true = true) /\ (([2, 1] : List Int) = [2, 1] /\ (2 : Nat) <= 100000) /\ K (true, ()))))))))) := by kernel_rfl
end Go.P3
