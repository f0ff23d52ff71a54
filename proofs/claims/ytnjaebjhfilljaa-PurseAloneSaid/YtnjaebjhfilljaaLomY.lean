/- From the library to a row: what a call that takes read-only arguments answers. -/
import Derived.Test.YtnjaebjhfilljaaLomW
import Derived.Below
import Derived.ChangeSame
set_option linter.unusedSimpArgs false
set_option linter.unusedVariables false
namespace Go.Lom
open Go.RowKit Go.WideShapes Go.ChangeShapes

/-- All that there is, frozen. -/
def zAll (w : World) : ZMap := fun B => w.heap[B]?
def noMap : PMap := fun _ => none

theorem hrel_start (w : World) : HRel (· < w.heap.size) ⟨w, zAll w⟩ (zAll w) noMap [] 0 w :=
  ⟨KeptW.refl _ _, fun _ _ h => h, fun _ _ _ => rfl, fun b x h => by simp [noMap] at h, fun b x h => by simp [Heap.get] at h, fun b x h => by simp [noMap] at h, fun b x h => by simp [Heap.get] at h, fun b b' x x' l l' _ h => by simp [Heap.get] at h, fun b x l h => by simp [Heap.get] at h⟩

/-- The law says true. -/
def saysTrue : AE → Heap → Nat → Prop := fun x _ _ => x = .ret (.bool true)

theorem calls_true {P : Program} {k : FuncId} {avs : List AV} {us : Array Value} {w : World} (h : SCall P k avs [] 0 saysTrue) (hr : Reps (zAll w) noMap avs us) :
    Calls P k us w fun e w' => e = .returned (.bool true) ∧ Below w.heap.size w w' := by
  refine (h _ _ _ _ _ _ (hrel_start w) hr).mono fun e w' ⟨Z', φ', x, H', nx', _, _, hE, hH, hx⟩ => ?_
  unfold saysTrue at hx
  subst hx
  cases e <;> try exact hE.elim
  cases hE
  exact ⟨rfl, hH.below.below (Nat.le_refl _)⟩

def isTrue : Option (AE × Heap × Nat) → Bool
  | some (.ret (.bool true), _, _) => true
  | _ => false

theorem scall_eval {P : Program} {lf n : Nat} {k : FuncId} {avs : List AV} {H : Heap} {nx : Nat} (h : isTrue (acall P lf n k avs H nx) = true) : SCall P k avs H nx saysTrue := by
  unfold isTrue at h
  split at h
  · rename_i H' nx' he
    exact (acall_ok P lf n _ _ _ _ _ _ _ he).mono fun x G m hx => hx.1
  · cases h

section
variable {H : Type} {enc : TypeId × Value → H} {P : Program}
theorem post_of_below {f : Func} {s : ChangeSpec} {apart fresh handsOn again : Bool} {W W' : World} {args : Array Value} {v : Value} {ds gs : List (DataW H)} {before pa pv : List MemPlace}
    (hW : DataW.Whole enc P f.params.toList s.vars apart W args.toList ds gs before)
    (hres : ∀ (b : Nat) (sp : Nat → Bool) (hd : Bool), DataW.TrodAll enc P W' b sp hd f.resultTypes.toList (v.resultList f.resultTypes.size) (s.fn H (ds ++ gs)).results [])
    (hargs : ∀ sp : Nat → Bool, (∀ p ∈ before, sp p.block = true) → DataW.TrodAll enc P W' 0 sp true f.params.toList args.toList (s.fn H (ds ++ gs)).args pa)
    (hvars : ∀ sp : Nat → Bool, (∀ p ∈ before, sp p.block = true) → DataW.TrodVars enc P W' sp s.vars (s.fn H (ds ++ gs)).vars pv)
    (hps : before = pa ++ pv) (hb : Below W.heap.size W W')
    (hok : ∀ (j : Nat) (t : TypeId) (r : Value), f.resultTypes[j]? = some t → (v.resultList f.resultTypes.size)[j]? = some r → Value.okWide P W' .any 0 t r) :
    s.post enc P f apart fresh handsOn again W args v W' := by
  have hlt : ∀ p ∈ before, p.block < W.heap.size := fun p hp => hW.lt p hp
  have hold : ∀ p ∈ before, (fun b => decide (b < W.heap.size)) p.block = true := fun p hp => by simpa using hlt p hp
  refine ⟨ds, gs, before, [], pa, pv, hW, hres _ _ _, hargs _ hold, hvars _ hold, World.keptBut_mono (fun p hp => ⟨hp, ?_⟩) (hb.frame (· ∈ before)), fun _ => ?_⟩
  · rw [hps, List.mem_append] at hp
    exact Or.inr hp
  · obtain ⟨_, _, _, _, _, hz, hn⟩ := hW
    refine ⟨hok, _, _, ([] ++ pa) ++ pv, ⟨[] ++ pa, pv, trodAll_append (hargs _ (fun _ _ => rfl)) (hres _ _ _), hvars _ (fun _ _ => rfl), rfl, ?_, ?_⟩, ?_⟩
    · intro b off hp
      have hin : MemPlace.cell b off ∈ before := by rw [hps]; simpa using hp
      rw [hb.frozen (hlt _ hin)]
      exact hz b off hin
    · intro ha
      have := hn ha
      rw [hps] at this
      simpa using this
    · intro p hp _
      rw [hps]
      simpa using hp
end
end Go.Lom
