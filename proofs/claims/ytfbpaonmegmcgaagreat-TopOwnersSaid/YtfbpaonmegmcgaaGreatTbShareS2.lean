/- Weights and shares: what the functions answer, the states of their loops, and what is to be shown of them, reduced. No conditions. -/
import Derived.Test.YtfbpaonmegmcgaaGreatTbShareS
set_option linter.all false
set_option maxRecDepth 100000
namespace Go.P7
open Go.Lom Go.Proofs Go
def big : Nat := 9223372036854775807
def mLen (l : List Int) (i : Int) : Nat := (l.length - i).toNat
def okW (x : Int) : Bool := decide (0 <= x /\ x <= 67108864)
def validW (l : List Int) : Bool := decide (1 <= l.length /\ l.length <= 24) && l.all okW && decide (0 < l.sum)
def firstBad : List Int -> Int -> Int
 | [], _ => -1
 | x :: l, i => if okW x = true then firstBad l (i + 1) else i
abbrev sh96 : Shape := [(0, .v L), (1, .a (.clo 40 [] [])), (7, .v I), (8, .v I)]
abbrev shR4 : Shape := [(4, .v I)]
def ex96 : AX -> Option Shape
 | .ret => some shR4
 | _ => some []
def s96L (l : List Int) (m i : Int) (Q : LQ) : Prop := (0 <= i /\ i <= l.length /\ m = l.length /\ l.length <= big) /\ ((l.drop i.toNat).all okW = true -> Q (.exit 0) (shSt [] ())) /\ ((l.drop i.toNat).all okW = false -> Q .ret (shSt shR4 (firstBad (l.drop i.toNat) i, ())))
abbrev lc96 : LC := ⟨sh96, fun x Q => s96L x.1 x.2.2.1 x.2.2.2.1 Q⟩
def s96 (l : List Int) (K : Int -> Prop) : Prop := l.length <= big /\ K (firstBad l 0)
abbrev fc96 : FC := ⟨[.v L, .clo 40 [] []], [I], fun x K => s96 x.1 fun r => K (r, ())⟩
theorem v96L (l : List Int) (m i : Int) (Q : AX -> St -> Prop) : (xloop Tryz.prog [] [] 5 55 0 lc96 ex96 (fun x => mLen x.1 x.2.2.2.1) (l, ((), ()), m, i, ()) Q) =
 (fork (decide (i < m)) (req (decide ((0 : Int) <= i /\ i < (↑(l.length) : Int))) (fork (decide (List.getD l (Int.toNat i) (0 : Int) >= (0 : Int))) (fork (!decide (List.getD l (Int.toNat i) (0 : Int) <= (67108864 : Int))) (Q
 AX.ret (shSt shR4 (i, ()))) (req (inR IntKind.i64 (i + 1)) (mLen l (i + 1) < mLen l i /\ LC.spec lc96 (l, ((), ()), m, i + 1, ()) Q))) (Q AX.ret (shSt shR4 (i, ()))))) (Q (AX.exit 0) (shSt [] ()))) := by kernel_rfl
theorem v96F (l : List Int) (K : dens [I] -> Prop) : (xfn Tryz.prog [] [(55, 0, lc96)] 5 55 fc96 (l, ((), ()), ()) K) =
 (((0 : Int) <= (0 : Int) /\ (0 : Int) <= (↑(l.length) : Int) /\ (↑(l.length) : Int) = (↑(l.length) : Int) /\ l.length <= 9223372036854775807) /\ (List.all (List.drop 0 l) okW = true -> K ((-1 : Int), ())) /\ (List.all (List.drop 0
 l) okW = false -> K (firstBad (List.drop 0 l) (0 : Int), ()))) := by kernel_rfl
def sValid (l : List Int) (K : Bool -> Prop) : Prop := l.length <= big /\ K (validW l)
abbrev fc47 : FC := ⟨[.v L], [.b], fun x K => sValid x.1 fun r => K (r, ())⟩
theorem v47F (l : List Int) (K : dens [.b] -> Prop) : (xfn Tryz.prog [(55, fc96), (25, fcSum)] [] 5 12 fc47 (l, ()) K) =
 (fork (decide ((↑(l.length) : Int) >= (1 : Int))) (fork (decide ((↑(l.length) : Int) <= (24 : Int))) (l.length <= 9223372036854775807 /\ fork (!decide (firstBad l (0 : Int) >= (0 : Int))) ((l.length <= 9223372036854775807 /\
 fitS (0 : Int) l) /\ K (decide (List.sum l > (0 : Int)), ())) (K (false, ()))) (K (false, ()))) (K (false, ()))) := by kernel_rfl
def share1 (s all w : Int) : Int := (s * w).tdiv all
def better (w out : List Int) (b i : Int) : Bool := decide (w.getD i.toNat 0 * (out.getD b.toNat 0 + 1) > w.getD b.toNat 0 * (out.getD i.toNat 0 + 1))
def bestN (w out : List Int) : Nat -> Int -> Int -> Int
 | 0, b, _ => b
 | n + 1, b, i => bestN w out n (if better w out b i = true then i else b) (i + 1)
def best (w out : List Int) : Int := bestN w out (w.length - 1) 0 1
def bump (out : List Int) (b : Int) : List Int := out.set b.toNat (out.getD b.toNat 0 + 1)
def giveN (w : List Int) : Nat -> List Int -> List Int
 | 0, out => out
 | n + 1, out => giveN w n (bump out (best w out))
def base (w : List Int) (s : Int) : List Int := w.map (share1 s w.sum)
def shareL (w : List Int) (s : Int) : List Int := giveN w (s - (base w s).sum).toNat (base w s)
def preW (w : List Int) : Prop := validW w = true
def outOk (w out : List Int) (left : Int) : Prop := out.length = w.length /\ ∀ x ∈ out, 0 <= x /\ x + left <= 68719476736
def sShare (w : List Int) (s : Int) (K : List Int -> Prop) : Prop := (preW w /\ 0 <= s /\ s <= 34359738368) /\ ∀ r, r = shareL w s -> K r
abbrev fcShare : FC := ⟨[.v L, .v I], [L], fun x K => sShare x.1 x.2.1 fun r => K (r, ())⟩
abbrev sh82 : Shape := [(0, .a (.ref L)), (1, .a (.ref L)), (3, .v I), (6, .v L), (7, .v I), (8, .v I)]
abbrev sh82E : Shape := [(3, .v I)]
def s82L (w out : List Int) (b : Int) (w2 : List Int) (m i : Int) (Q : LQ) : Prop :=
 (preW w /\ outOk w out 0 /\ w2 = w /\ m = w.length /\ 0 <= b /\ b < w.length /\ 0 <= i /\ i <= w.length) /\ ∀ c, c = bestN w out (w.length - i).toNat b i -> Q (.exit 0) (shSt sh82E (c, ()))
abbrev lc82 : LC := ⟨sh82, fun x Q => s82L x.1 x.2.1 x.2.2.1 x.2.2.2.1 x.2.2.2.2.1 x.2.2.2.2.2.1 Q⟩
theorem v82L (w out : List Int) (b : Int) (w2 : List Int) (m i : Int) (Q : AX -> St -> Prop) : (xloop Tryz.prog [] [] 5 26 0 lc82 (one sh82E) (fun x => mLen x.1 x.2.2.2.2.2.1) (w, out, b, w2, m, i, ()) Q) =
 (fork (decide (i < m)) (req (decide ((0 : Int) <= i /\ i < (↑(w2.length) : Int))) (req (decide ((0 : Int) <= b /\ b < (↑(out.length) : Int))) (req (inR IntKind.i64 (List.getD out (Int.toNat b) (0 : Int) + 1)) (req (inR
 IntKind.i64 (List.getD w2 (Int.toNat i) (0 : Int) * (List.getD out (Int.toNat b) (0 : Int) + 1))) (req (decide ((0 : Int) <= b /\ b < (↑(w.length) : Int))) (req (decide ((0 : Int) <= i /\ i < (↑(out.length) : Int))) (req (inR
 IntKind.i64 (List.getD out (Int.toNat i) (0 : Int) + 1)) (req (inR IntKind.i64 (List.getD w (Int.toNat b) (0 : Int) * (List.getD out (Int.toNat i) (0 : Int) + 1))) (fork (decide (List.getD w2 (Int.toNat i) (0 : Int) *
 (List.getD out (Int.toNat b) (0 : Int) + 1) > List.getD w (Int.toNat b) (0 : Int) * (List.getD out (Int.toNat i) (0 : Int) + 1))) (req (inR IntKind.i64 (i + 1)) (mLen w (i + 1) < mLen w i /\ LC.spec lc82 (w, out, i, w2, m,
 i + 1, ()) Q)) (req (inR IntKind.i64 (i + 1)) (mLen w (i + 1) < mLen w i /\ LC.spec lc82 (w, out, b, w2, m, i + 1, ()) Q))))))))))) (Q (AX.exit 0) (shSt sh82E (b, ())))) := by kernel_rfl
def s82 (w out : List Int) (K : Int -> Prop) : Prop := (preW w /\ outOk w out 0) /\ ∀ c, c = best w out -> K c
abbrev fc82 : FC := ⟨[.ref L, .ref L], [I], fun x K => s82 x.1 x.2.1 fun r => K (r, ())⟩
theorem v82F (w out : List Int) (K : dens [I] -> Prop) : (xfn Tryz.prog [] [(26, 0, lc82)] 5 26 fc82 (w, out, ()) K) =
 ((preW w /\ outOk w out (0 : Int) /\ w = w /\ (↑(w.length) : Int) = (↑(w.length) : Int) /\ (0 : Int) <= (0 : Int) /\ (0 : Int) < (↑(w.length) : Int) /\ (0 : Int) <= (0 : Int) /\ (0 : Int) <= (↑(w.length) : Int)) /\ ∀ (c : Int), c =
 bestN w out (Int.toNat ((↑(w.length) : Int) - 0)) (0 : Int) (0 : Int) -> K (c, ())) := by kernel_rfl
abbrev sh49a : Shape := [(1, .v I), (2, .box L), (5, .boxOwn I), (6, .v I), (16, .v L), (17, .v I), (18, .v I)]
abbrev sh49aE : Shape := [(1, .v I), (2, .box L), (5, .boxOwn I)]
def s49a (s : Int) (w out : List Int) (all : Int) (w2 : List Int) (m i : Int) (Q : LQ) : Prop :=
 (preW w /\ 0 <= s /\ s <= 34359738368 /\ all = w.sum /\ w2 = w /\ m = w.length /\ out.length = w.length /\ 0 <= i /\ i <= w.length) /\
 ∀ o, o = out.take i.toNat ++ (w.drop i.toNat).map (share1 s all) -> Q (.exit 0) (shSt sh49aE (s, w, o, ()))
abbrev lc49a : LC := ⟨sh49a, fun x Q => s49a x.1 x.2.1 x.2.2.1 x.2.2.2.1 x.2.2.2.2.1 x.2.2.2.2.2.1 x.2.2.2.2.2.2.1 Q⟩
theorem v49a (s : Int) (w out : List Int) (all : Int) (w2 : List Int) (m i : Int) (Q : AX -> St -> Prop) : (xloop Tryz.prog [] [] 5 14 0 lc49a (one sh49aE) (fun x => mLen x.2.1 x.2.2.2.2.2.2.1) (s, w, out, all, w2, m, i, ()) Q) =
 (fork (decide (i < m)) (req (decide ((0 : Int) <= i /\ i < (↑(w2.length) : Int))) (req (inR IntKind.i64 (s * List.getD w2 (Int.toNat i) (0 : Int))) (req (decide (all ≠ (0 : Int))) (req (inR IntKind.i64 (Int.tdiv (s *
 List.getD w2 (Int.toNat i) (0 : Int)) all)) (req (decide ((0 : Int) <= i /\ i < (↑(out.length) : Int))) (req (decide (Int.toNat i < out.length)) (req (inR IntKind.i64 (i + 1)) (req (decide (0 + out.length <= List.length
 (List.set out (Int.toNat i) (Int.tdiv (s * List.getD w2 (Int.toNat i) (0 : Int)) all)))) (mLen w (i + 1) < mLen w i /\ LC.spec lc49a (s, w, seg 0 (out.length) (List.set out (Int.toNat i) (Int.tdiv (s * List.getD w2
 (Int.toNat i) (0 : Int)) all)), all, w2, m, i + 1, ()) Q))))))))) (req (decide (0 + out.length <= out.length)) (Q (AX.exit 0) (shSt sh49aE (s, w, seg 0 (out.length) out, ()))))) := by kernel_rfl
abbrev sh49b : Shape := [(2, .box L), (5, .boxOwn I), (9, .fn 26 [] [2, 5]), (10, .v I)]
abbrev sh49bE : Shape := [(5, .boxOwn I)]
def s49b (w out : List Int) (left : Int) (Q : LQ) : Prop :=
 (preW w /\ outOk w out left /\ left <= 34359738368) /\ ∀ o, o = giveN w left.toNat out -> Q (.exit 2) (shSt sh49bE (o, ()))
abbrev lc49b : LC := ⟨sh49b, fun x Q => s49b x.1 x.2.1 x.2.2.2.1 Q⟩
theorem v49b (w out : List Int) (left : Int) (Q : AX -> St -> Prop) : (xloop Tryz.prog [(26, fc82)] [] 5 14 1 lc49b (one sh49bE) (fun x => x.2.2.2.1.toNat) (w, out, (), left, ()) Q) =
 (fork (decide (left > (0 : Int))) (req (decide (0 + out.length <= out.length)) ((preW w /\ outOk w (seg 0 (out.length) out) (0 : Int)) /\ ∀ (c : Int), c = best w (seg 0 (out.length) out) -> AV.sl 1 1 0 (out.length) none =
 AV.sl 1 1 0 (out.length) none /\ req (decide ((0 : Int) <= c /\ c < (↑(out.length) : Int))) (req (decide (Int.toNat c < out.length)) (req (inR IntKind.i64 (List.getD out (Int.toNat c) (0 : Int) + 1)) (req (decide ((0 : Int)
 <= c /\ c < (↑(out.length) : Int))) (req (decide (Int.toNat c < out.length)) (req (inR IntKind.i64 (left - 1)) (req (decide (0 + out.length <= List.length (List.set out (Int.toNat c) (List.getD out (Int.toNat c) (0 : Int) +
 1)))) (Int.toNat (left - 1) < Int.toNat left /\ LC.spec lc49b (w, seg 0 (out.length) (List.set out (Int.toNat c) (List.getD out (Int.toNat c) (0 : Int) + 1)), (), left - 1, ()) Q))))))))) (req (decide (0 + out.length <=
 out.length)) (Q (AX.exit 2) (shSt sh49bE (seg 0 (out.length) out, ()))))) := by kernel_rfl
theorem v49F (w : List Int) (s : Int) (K : dens [L] -> Prop) : (xfn Tryz.prog [(25, fcSum)] [(14, 0, lc49a), (14, 1, lc49b)] 5 14 fcShare (w, s, ()) K) =
 (req (decide ((0 : Int) <= (↑(w.length) : Int) /\ (↑(w.length) : Int) <= (↑(w.length) : Int) /\ (8 : Int) * (↑(w.length) : Int) <= (281474976710656 : Int) /\ (↑(w.length) : Int) <= (281474976710656 : Int))) ((w.length <=
 9223372036854775807 /\ fitS (0 : Int) w) /\ req (decide (0 + Int.toNat (↑(w.length) : Int) <= List.length (List.replicate (Int.toNat (↑(w.length) : Int)) (0 : Int)))) ((preW w /\ (0 : Int) <= s /\ s <= (34359738368 : Int) /\
 List.sum w = List.sum w /\ w = w /\ (↑(w.length) : Int) = (↑(w.length) : Int) /\ List.length (seg 0 (Int.toNat (↑(w.length) : Int)) (List.replicate (Int.toNat (↑(w.length) : Int)) (0 : Int))) = w.length /\ (0 : Int) <= (0 :
 Int) /\ (0 : Int) <= (↑(w.length) : Int)) /\ ∀ (o : List Int), o = List.take 0 (seg 0 (Int.toNat (↑(w.length) : Int)) (List.replicate (Int.toNat (↑(w.length) : Int)) (0 : Int))) ++ List.map (share1 s (List.sum w)) (List.drop
 0 w) -> req (decide (0 + o.length <= o.length)) ((List.length (seg 0 (o.length) o) <= 9223372036854775807 /\ fitS (0 : Int) (seg 0 (o.length) o)) /\ req (inR IntKind.i64 (s - List.sum (seg 0 (o.length) o))) (req (decide (0 +
 o.length <= o.length)) ((preW w /\ outOk w (seg 0 (o.length) o) (s - List.sum (seg 0 (o.length) o)) /\ s - List.sum (seg 0 (o.length) o) <= (34359738368 : Int)) /\ ∀ (o_1 : List Int), o_1 = giveN w (Int.toNat (s - List.sum
 (seg 0 (o.length) o))) (seg 0 (o.length) o) -> req (decide (0 + o_1.length <= o_1.length)) (K (seg 0 (o_1.length) o_1, ())))))))) := by kernel_rfl
end Go.P7
