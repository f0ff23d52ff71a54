/- Rolls of tickets: what a call answers, and what it leaves. No conditions. -/
import Derived.Test.YtcpdcpfbgmiaoaaDoorRollA
import Derived.Test.YtcpdcpfbgmiaoaaDoorDigL
set_option linter.all false
namespace Go.P3
open Go.Lom Go.Proofs Go
abbrev RS : Type := Int × Int × List Tk × List Ev
def tkI (l : List Tk) (n : Int) : Tk := l.getD (n - 1).toNat T0
def liveB (t : Tk) : Bool := decide (t.2.2.1 = 1 \/ t.2.2.1 = 2)
def turnI (l : List Tk) (n st si : Int) : List Tk := l.set (n - 1).toNat ((tkI l n).1, (tkI l n).2.1, st, (tkI l n).2.2.2.1, si, (tkI l n).2.2.2.2.2)
def dayB (s : RS) (d : Int) : Bool := decide (0 <= d /\ d <= 36500 /\ s.2.1 <= d)
def bringE (s : RS) (c : Tx) (d : Int) : Int := if dayB s d = false then 34 else if (numberI c).2 ≠ 0 then (numberI c).2 else if (numberI c).1 > s.2.2.1.length then 4 else if liveB (tkI s.2.2.1 (numberI c).1) = false then 35 else 0
def fitsE (t : Tk) (h : List Int) : Int := if inB (-1) h = false then 31 else if (fitI t.2.2.2.1 h).2 = false then 32 else 0
def hadB (s : RS) (p : Tx) : Bool := s.2.2.1.any (named p)
def doneI (s : RS) (k d n : Int) (ts : List Tk) : RS := (s.1, d, ts, s.2.2.2 ++ [(k, d, n, if s.2.2.1.length < ts.length then (ts.length : Int) else 0, if s.2.2.1.length < ts.length then (ts.length : Int) - s.2.2.1.length else 0)])
def stI (s : RS) (c : Tx) : Int := (tkI s.2.2.1 (numberI c).1).2.2.1
def issueI (s : RS) (p : Tx) (e : List Int) (d : Int) : RS × Tx × Int :=
 if dayB s d = false then (s, [], 34) else if (wordB p && !hadB s p) = false then (s, [], 33) else if inB 0 e = false then (s, [], 31) else if s.2.2.1.length >= 256 then (s, [], 6) else
 (doneI s 1 d 0 (s.2.2.1 ++ [((s.2.2.1.length : Int) + 1, p, 1, e, 0, 0)]), codeS ((s.2.2.1.length : Int) + 1), 0)
def blockI (s : RS) (c : Tx) (d : Int) : RS × Int :=
 if bringE s c d ≠ 0 then (s, bringE s c d) else if stI s c = 2 then (s, 36) else
 (doneI s 2 d (numberI c).1 (turnI s.2.2.1 (numberI c).1 2 d), 0)
def freeI (s : RS) (c : Tx) (h : List Int) (d : Int) : RS × Int :=
 if bringE s c d ≠ 0 then (s, bringE s c d) else if stI s c ≠ 2 then (s, 37) else if fitsE (tkI s.2.2.1 (numberI c).1) h ≠ 0 then (s, fitsE (tkI s.2.2.1 (numberI c).1) h) else
 (doneI s 3 d (numberI c).1 (turnI s.2.2.1 (numberI c).1 1 0), 0)
def replaceI (s : RS) (c : Tx) (e : List Int) (d : Int) : RS × Tx × Int :=
 if bringE s c d ≠ 0 then (s, [], bringE s c d) else if ¬ (stI s c = 2 /\ s.1 <= d - (tkI s.2.2.1 (numberI c).1).2.2.2.2.1) then (s, [], 37) else if inB 0 e = false then (s, [], 31) else if s.2.2.1.length >= 256 then (s, [], 6) else
 (doneI s 4 d (numberI c).1 (turnI s.2.2.1 (numberI c).1 3 0 ++ [((s.2.2.1.length : Int) + 1, (tkI s.2.2.1 (numberI c).1).2.1, 1, e, 0, (numberI c).1)]), codeS ((s.2.2.1.length : Int) + 1), 0)
def newsB (s : RS) (ps : List Tx) : Nat -> Nat -> Bool
 | 0, _ => true
 | k + 1, i => (wordB (ps.getD i []) && !hadB s (ps.getD i []) && !(ps.take i).any (eqT (ps.getD i []))) && newsB s ps k (i + 1)
def addsI (ts : List Tk) (ps : List Tx) (es : List (List Int)) (n : Int) : Nat -> Nat -> List Tk
 | 0, _ => ts
 | k + 1, i => addsI (ts ++ [((ts.length : Int) + 1, ps.getD i [], 1, es.getD i [], 0, n)]) ps es n k (i + 1)
def codesI : Nat -> Int -> List Tx
 | 0, _ => []
 | k + 1, n => codeS n :: codesI k (n + 1)
def divideI (s : RS) (c : Tx) (h : List Int) (ps : List Tx) (es : List (List Int)) (d : Int) : RS × List Tx × Int :=
 if bringE s c d ≠ 0 then (s, [], bringE s c d) else if stI s c = 2 then (s, [], 36) else if fitsE (tkI s.2.2.1 (numberI c).1) h ≠ 0 then (s, [], fitsE (tkI s.2.2.1 (numberI c).1) h) else
 if (decide (2 <= ps.length /\ ps.length <= 4) && newsB s ps ps.length 0) = false then (s, [], 33) else if (decide (es.length = ps.length) && es.all (inB 0)) = false then (s, [], 31) else if s.2.2.1.length + ps.length > 256 then (s, [], 6) else
 (doneI s 5 d (numberI c).1 (addsI (turnI s.2.2.1 (numberI c).1 3 0) ps es (numberI c).1 ps.length 0), codesI ps.length ((s.2.2.1.length : Int) + 1), 0)
def redeemI (s : RS) (c : Tx) (h : List Int) (d : Int) : RS × Tx × Int :=
 if bringE s c d ≠ 0 then (s, [], bringE s c d) else if stI s c = 2 then (s, [], 36) else if fitsE (tkI s.2.2.1 (numberI c).1) h ≠ 0 then (s, [], fitsE (tkI s.2.2.1 (numberI c).1) h) else
 (doneI s 6 d (numberI c).1 (turnI s.2.2.1 (numberI c).1 4 0), (tkI s.2.2.1 (numberI c).1).2.1, 0)
def forfeitI (s : RS) (c : Tx) (d : Int) : RS × Tx × Int :=
 if bringE s c d ≠ 0 then (s, [], bringE s c d) else if stI s c = 2 then (s, [], 36) else
 (doneI s 7 d (numberI c).1 (turnI s.2.2.1 (numberI c).1 5 0), (tkI s.2.2.1 (numberI c).1).2.1, 0)
def liveK : List Tk -> Tx -> Tx × Int
 | [], _ => ([], 4)
 | t :: l, p => if named p t = true /\ liveB t = true then (codeS t.1, 0) else liveK l p
def liveI (s : RS) (p : Tx) : Tx × Int := liveK s.2.2.1 p
def lineK (l : List Tk) : Nat -> Int -> List Int
 | 0, _ => []
 | k + 1, n => if n > 0 then n :: lineK l k (tkI l n).2.2.2.2.2 else []
def lineI (s : RS) (c : Tx) : List Int × Int := if (numberI c).2 ≠ 0 then ([], (numberI c).2) else if (numberI c).1 > s.2.2.1.length then ([], 4) else (lineK s.2.2.1 ((numberI c).1).toNat (numberI c).1, 0)
abbrev Cl : Type := Int × Int × Tx × Tx × List Int × List Tx × List (List Int)
def edgeI (c : Cl) : List Int := c.2.2.2.2.2.2.getD 0 []
def callI (s : RS) (c : Cl) : RS × List Tx × List Int × Int :=
 let one : RS × Tx × Int -> RS × List Tx × List Int × Int := fun r => (r.1, [r.2.1], [], r.2.2)
 if c.1 = 1 then one (issueI s c.2.2.2.1 (edgeI c) c.2.1)
 else if c.1 = 2 then ((blockI s c.2.2.1 c.2.1).1, [[]], [], (blockI s c.2.2.1 c.2.1).2)
 else if c.1 = 3 then ((freeI s c.2.2.1 c.2.2.2.2.1 c.2.1).1, [[]], [], (freeI s c.2.2.1 c.2.2.2.2.1 c.2.1).2)
 else if c.1 = 4 then one (replaceI s c.2.2.1 (edgeI c) c.2.1)
 else if c.1 = 5 then ((divideI s c.2.2.1 c.2.2.2.2.1 c.2.2.2.2.2.1 c.2.2.2.2.2.2 c.2.1).1, (divideI s c.2.2.1 c.2.2.2.2.1 c.2.2.2.2.2.1 c.2.2.2.2.2.2 c.2.1).2.1, [], (divideI s c.2.2.1 c.2.2.2.2.1 c.2.2.2.2.2.1 c.2.2.2.2.2.2 c.2.1).2.2)
 else if c.1 = 6 then one (redeemI s c.2.2.1 c.2.2.2.2.1 c.2.1)
 else if c.1 = 7 then one (forfeitI s c.2.2.1 c.2.1)
 else if c.1 = 8 then (s, [(liveI s c.2.2.2.1).1], [], (liveI s c.2.2.2.1).2)
 else (s, [], (lineI s c.2.2.1).1, (lineI s c.2.2.1).2)
def doC (k : Int) (s : RS) (c : Tx) (h : List Int) (ps : List Tx) (eds : List (List Int)) (d : Int) : RS × List Tx × Tx × Int :=
 if k = 1 then ((issueI s (ps.getD 0 []) (eds.getD 0 []) d).1, if (issueI s (ps.getD 0 []) (eds.getD 0 []) d).2.2 = 0 then [(issueI s (ps.getD 0 []) (eds.getD 0 []) d).2.1] else [], [], (issueI s (ps.getD 0 []) (eds.getD 0 []) d).2.2)
 else if k = 2 then ((blockI s c d).1, [], [], (blockI s c d).2)
 else if k = 3 then ((freeI s c h d).1, [], [], (freeI s c h d).2)
 else if k = 4 then ((replaceI s c (eds.getD 0 []) d).1, if (replaceI s c (eds.getD 0 []) d).2.2 = 0 then [(replaceI s c (eds.getD 0 []) d).2.1] else [], [], (replaceI s c (eds.getD 0 []) d).2.2)
 else if k = 5 then ((divideI s c h ps eds d).1, (divideI s c h ps eds d).2.1, [], (divideI s c h ps eds d).2.2)
 else if k = 6 then ((redeemI s c h d).1, [], (redeemI s c h d).2.1, (redeemI s c h d).2.2)
 else ((forfeitI s c d).1, [], (forfeitI s c d).2.1, (forfeitI s c d).2.2)
structure tkOk (i : Nat) (t : Tk) : Prop where
 num : t.1 = (i : Int) + 1
 since : 0 <= t.2.2.2.2.1 /\ t.2.2.2.2.1 <= 36500
 edge : inB 0 t.2.2.2.1 = true
 comes : 0 <= t.2.2.2.2.2 /\ t.2.2.2.2.2 <= i
 st : 1 <= t.2.2.1 /\ t.2.2.1 <= 5
 word : wordB t.2.1 = true
structure okR (s : RS) : Prop where
 wait : 0 <= s.1 /\ s.1 <= 1000
 day : 0 <= s.2.1 /\ s.2.1 <= 36500
 len : s.2.2.1.length <= 256
 tk : ∀ i t, s.2.2.1[i]? = some t -> tkOk i t
theorem tkI_mem {l : List Tk} {n : Int} (h0 : 1 <= n) (h1 : n <= l.length) : l[(n - 1).toNat]? = some (tkI l n) := by
 have h : (n - 1).toNat < l.length := by omega
 unfold tkI
 rw [List.getElem?_eq_getElem h, List.getD_eq_getElem?_getD, List.getElem?_eq_getElem h]; rfl
theorem turnI_len (l : List Tk) (n st si : Int) : (turnI l n st si).length = l.length := by unfold turnI; simp
theorem turnI_get (l : List Tk) (n st si : Int) (i : Nat) : (turnI l n st si)[i]? = if i = (n - 1).toNat /\ i < l.length then some ((tkI l n).1, (tkI l n).2.1, st, (tkI l n).2.2.2.1, si, (tkI l n).2.2.2.2.2) else l[i]? := by
 unfold turnI
 rw [List.getElem?_set]
 by_cases h : (n - 1).toNat = i
 ·subst h
  by_cases h2 : (n - 1).toNat < l.length
  ·rw [if_pos rfl, if_pos h2, if_pos ⟨rfl, h2⟩]
  ·rw [if_pos rfl, if_neg h2, if_neg (fun e => h2 e.2), List.getElem?_eq_none (by omega)]
 ·rw [if_neg h, if_neg (fun e => h e.1.symm)]
theorem bring_ok {s : RS} {c : Tx} {d : Int} (h : bringE s c d = 0) : (0 <= d /\ d <= 36500 /\ s.2.1 <= d) /\ (numberI c).2 = 0 /\ 1 <= (numberI c).1 /\ (numberI c).1 <= s.2.2.1.length /\ liveB (tkI s.2.2.1 (numberI c).1) = true := by
 unfold bringE at h
 split at h
 ·cases h
 rename_i hd
 split at h
 ·contradiction
 rename_i hn
 split at h
 ·cases h
 rename_i hl
 split at h
 ·cases h
 rename_i hv
 have hd : dayB s d = true := by simpa using hd
 have hn : (numberI c).2 = 0 := by simpa using hn
 obtain ⟨-, h1, -⟩ := num_valid (b := c) (r := (numberI c).1) (by rw [<- hn])
 exact ⟨of_decide_eq_true hd, hn, h1, by omega, by simpa using hv⟩
end Go.P3
