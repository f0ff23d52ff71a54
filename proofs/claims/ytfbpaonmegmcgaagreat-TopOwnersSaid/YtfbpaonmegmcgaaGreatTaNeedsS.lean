/- Funds: needs: states and what is to be shown, reduced. No conditions. -/
import Derived.Test.YtfbpaonmegmcgaaGreatTaWorstS
set_option linter.all false
set_option maxRecDepth 100000
set_option maxHeartbeats 2000000
namespace Go.P9
open Go.Lom Go.Proofs Go
def dueI (f : Fd) (i due : Int) : Int := due + ((fBonds f).getD i.toNat 0 - ((fIn f).getD i.toNat (0, 0)).1)
def needsK (f : Fd) : Nat -> Int -> Int -> List Int
 | 0, _, _ => []
 | k + 1, i, due => (dueI f i due + (worstW f i).2) :: needsK f k (i + 1) (dueI f i due)
def needsL (f : Fd) : List Int := needsK f (fIn f).length 0 (-(fCash f))
def okN (f : Fd) (out : List Int) (due i : Int) : Prop := okF f = true /\ 0 <= i /\ i <= (fIn f).length /\ out.length <= i /\ -1099511627776 - 1073741824 * i <= due /\ due <= 1073741824 * i
abbrev shN : SV := S [(3, .own 0 I)]
abbrev sh54 : SV := S [(1, bF), (3, .own 1 I), (4, .v I), (13, .v I), (14, .v I)]
def s54 (f : Fd) (out : List Int) (due n i : Int) (Q : LQ) : Prop := (okN f out due i /\ n = (fIn f).length) /\ Q (.exit 0) (stS 1 shN (out ++ needsK f ((fIn f).length - i.toNat) i due, ()))
abbrev lc54 : LC2 := ⟨0, sh54, 2, fun (f, out, due, n, i, _) Q => s54 f out due n i Q⟩
theorem v54L (f : Fd) (out : List Int) (due n i : Int) (Q : AX -> St -> Prop) : (xloop2 Tryz.prog { f := [(38, fcWorst)] } 5 23 0 lc54 (fun _ => some (shN, 1)) (fun (f, _, _, _, i, _) => mL (fIn f) i) (f, out, due, n, i, ()) Q) =
 (fork (decide (i < n)) (req (decide ((0 : Int) <= i /\ i < (↑(List.length (f.2.2.1)) : Int))) (req (decide ((0 : Int) <= i /\ i < (↑(List.length (f.2.1)) : Int))) (req (inR IntKind.i64 (List.getD (f.2.2.1) (Int.toNat i) (0 :
 Int) - (List.getD (f.2.1) (Int.toNat i) ((0 : Int), (0 : Int))).1)) (req (inR IntKind.i64 (due + (List.getD (f.2.2.1) (Int.toNat i) (0 : Int) - (List.getD (f.2.1) (Int.toNat i) ((0 : Int), (0 : Int))).1))) ((okF f = true
 /\ (0 : AT.den (AT.v I)) <= i /\ i <= (12 : AT.den (AT.v I))) /\ req (inR IntKind.i64 (due + (List.getD (f.2.2.1) (Int.toNat i) (0 : Int) - (List.getD (f.2.1) (Int.toNat i) ((0 : Int), (0 : Int))).1) + (worstW f i).2)) (req
 (decide (0 + out.length <= out.length)) (req (fitsN (out.length + List.length (seg 0 1 [due + (List.getD (f.2.2.1) (Int.toNat i) (0 : Int) - (List.getD (f.2.1) (Int.toNat i) ((0 : Int), (0 : Int))).1) + (worstW f i).2]))
 8) (req (inR IntKind.i64 (i + 1)) (req (decide (0 + (out.length + List.length (seg 0 1 [due + (List.getD (f.2.2.1) (Int.toNat i) (0 : Int) - (List.getD (f.2.1) (Int.toNat i) ((0 : Int), (0 : Int))).1) + (worstW f i).2]))
 <= List.length (seg 0 (out.length) out ++ seg 0 1 [due + (List.getD (f.2.2.1) (Int.toNat i) (0 : Int) - (List.getD (f.2.1) (Int.toNat i) ((0 : Int), (0 : Int))).1) + (worstW f i).2]))) (mL (fIn f) (i + 1) < mL (fIn f) i /\
 LC2.spec lc54 (f, seg 0 (out.length + List.length (seg 0 1 [due + (List.getD (f.2.2.1) (Int.toNat i) (0 : Int) - (List.getD (f.2.1) (Int.toNat i) ((0 : Int), (0 : Int))).1) + (worstW f i).2])) (seg 0 (out.length) out ++
 seg 0 1 [due + (List.getD (f.2.2.1) (Int.toNat i) (0 : Int) - (List.getD (f.2.1) (Int.toNat i) ((0 : Int), (0 : Int))).1) + (worstW f i).2]), due + (List.getD (f.2.2.1) (Int.toNat i) (0 : Int) - (List.getD (f.2.1)
 (Int.toNat i) ((0 : Int), (0 : Int))).1), n, i + 1, ()) Q)))))))))) (req (decide (0 + out.length <= out.length)) (Q (AX.exit 0) (stS 1 shN (seg 0 (out.length) out, ()))))) := by kernel_rfl
abbrev fcN0 : FC := ⟨[.v TF], [L], fun x K => (okF x.1 = true) /\ K (needsL x.1, ())⟩
theorem v54F (f : Fd) (K : dens [L] -> Prop) : (xfn1 Tryz.prog { l2 := [(23, 0, lc54)] } 5 23 fcN0 (f, ()) K) =
 (req (inR IntKind.i64 (-f.1)) ((okN f [] (-f.1) (0 : Int) /\ (↑(List.length (f.2.1)) : Int) = (↑(List.length (fIn f)) : Int)) /\ req (decide (0 + List.length ([] ++ needsK f (List.length (fIn f) - 0) (0 : Int) (-f.1)) <=
 List.length ([] ++ needsK f (List.length (fIn f) - 0) (0 : Int) (-f.1)))) (K (seg 0 (List.length ([] ++ needsK f (List.length (fIn f) - 0) (0 : Int) (-f.1))) ([] ++ needsK f (List.length (fIn f) - 0) (0 : Int) (-f.1)),
 ())))) := by kernel_rfl
def dayIn (f : Fd) (day : Int) : Prop := 0 <= day /\ day <= ((fIn f).length : Int) - 1
instance (f : Fd) (day : Int) : Decidable (dayIn f day) := inferInstanceAs (Decidable (_ /\ _))
end Go.P9
