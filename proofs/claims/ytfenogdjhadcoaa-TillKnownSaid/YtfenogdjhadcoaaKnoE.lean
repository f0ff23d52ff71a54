/- TillKnown: what single calls return, evaluated. No conditions. -/
import Derived.Test.YtfenogdjhadcoaaLibD
import Derived.KernelRfl
import Derived.Test.YtfenogdjhadcoaaProg
set_option linter.all false
set_option maxRecDepth 100000
set_option synthInstance.maxSize 5000
set_option synthInstance.maxHeartbeats 400000
namespace Go.P8
open Go.Lom Go.Proofs Go
abbrev KI : Ty := .i .i64
abbrev KL : Ty := .sl KI
abbrev KLL : Ty := .sl KL
abbrev KP : Ty := .sl (.pr KI (.pr KI KI))
abbrev K2 : Ty := .sl (.pr KI KI)
abbrev KW : Ty := .pr KI (.pr KI (.pr KI KI))
def whenO {α : Type} (o : Option α) (P : α -> Prop) : Prop := match o with
 | some x => P x
 | none => False
theorem whenO_iff {α : Type} {o : Option α} {P : α -> Prop} : whenO o P ↔ ∃ x, o = some x /\ P x := by cases o <;> simp [whenO]
def lookE {α β : Type} [DecidableEq α] : List (α × β) -> α -> Option β
 | [], _ => none
 | (a, b) :: l, x => if x = a then some b else lookE l x
theorem lookE_mem {α β : Type} [DecidableEq α] {x : α} {r : β} : ∀ {l : List (α × β)}, lookE l x = some r -> (x, r) ∈ l
 | [], h => by cases h
 | (a, b) :: l, h => by
  unfold lookE at h
  split at h
  ·rename_i e; injection h with h; subst e h; exact List.mem_cons_self ..
  ·exact List.mem_cons_of_mem _ (lookE_mem h)
theorem tab0 : KnowsTrue Try.prog ⟨[], [], []⟩ := knows_nil _
theorem ev39_0 : PCok Try.prog 39 [.v KI, .v KLL, .v KL] [KI, KI, KI] fun x K => x = (3, [[-1, 1, 0]], [0], ()) /\ K (0, 0, 82, ()) := pc_evalC (lf := 1000) (n := 100) tab0 _ _ (ps := []) (by kernel_rfl) rfl
theorem ev39_1 : PCok Try.prog 39 [.v KI, .v KLL, .v KL] [KI, KI, KI] fun x K => x = (3, [[-1, 1, 0], [-1, 0, 1]], [0], ()) /\ K (0, 0, 7, ()) := pc_evalC (lf := 1000) (n := 100) tab0 _ _ (ps := []) (by kernel_rfl) rfl
theorem ev39_2 : PCok Try.prog 39 [.v KI, .v KLL, .v KL] [KI, KI, KI] fun x K => x = (3, [[-1, 1, 0], [-1, 0, 1]], [1, -1], ()) /\ K (0, 0, 4, ()) := pc_evalC (lf := 1000) (n := 100) tab0 _ _ (ps := []) (by kernel_rfl) rfl
theorem ev39_3 : PCok Try.prog 39 [.v KI, .v KLL, .v KL] [KI, KI, KI] fun x K => x = (3, [[-1, 1, 0], [-1, 0, 1]], [0, 0], ()) /\ K (-1, 0, 0, ()) := pc_evalC (lf := 1000) (n := 100) tab0 _ _ (ps := []) (by kernel_rfl) rfl
def tb39 : List (((Int) × (List (List Int)) × (List Int)) × ((Int) × (Int) × (Int))) := [((3, [[-1, 1, 0]], [0]), (0, 0, 82)), ((3, [[-1, 1, 0], [-1, 0, 1]], [0]), (0, 0, 7)), ((3, [[-1, 1, 0], [-1, 0, 1]], [1, -1]), (0, 0, 4)), ((3, [[-1, 1, 0], [-1, 0, 1]], [0, 0]), (-1, 0, 0))]
abbrev fk39 : FC := ⟨[.v KI, .v KLL, .v KL], [KI, KI, KI], fun x K => whenO (lookE tb39 (x.1, x.2.1, x.2.2.1)) fun r => K (r.1, r.2.1, r.2.2, ())⟩
theorem kk39 : FnOk Try.prog 39 fk39 := fun x K hx => by
 obtain ⟨a, b, c, ⟨⟩⟩ := x
 obtain ⟨r, hr, hK⟩ := whenO_iff.1 hx
 have hm := lookE_mem hr
 simp only [tb39, List.mem_cons, List.not_mem_nil, or_false] at hm
 rcases hm with h | h | h | h
 ·obtain ⟨h1, rfl⟩ := Prod.mk.inj h
  have e : (a, b, c, ()) = _ := congrArg (fun q : (Int) × (List (List Int)) × (List Int) => (q.1, q.2.1, q.2.2, ())) h1
  exact ev39_0 _ _ ⟨e, hK⟩
 ·obtain ⟨h1, rfl⟩ := Prod.mk.inj h
  have e : (a, b, c, ()) = _ := congrArg (fun q : (Int) × (List (List Int)) × (List Int) => (q.1, q.2.1, q.2.2, ())) h1
  exact ev39_1 _ _ ⟨e, hK⟩
 ·obtain ⟨h1, rfl⟩ := Prod.mk.inj h
  have e : (a, b, c, ()) = _ := congrArg (fun q : (Int) × (List (List Int)) × (List Int) => (q.1, q.2.1, q.2.2, ())) h1
  exact ev39_2 _ _ ⟨e, hK⟩
 ·obtain ⟨h1, rfl⟩ := Prod.mk.inj h
  have e : (a, b, c, ()) = _ := congrArg (fun q : (Int) × (List (List Int)) × (List Int) => (q.1, q.2.1, q.2.2, ())) h1
  exact ev39_3 _ _ ⟨e, hK⟩
theorem ev31_0 : PCok Try.prog 31 [.v K2] [KL, KI] fun x K => x = ([(1, 1)], ()) /\ K ([], 83, ()) := pc_evalC (lf := 1000) (n := 100) tab0 _ _ (ps := []) (by kernel_rfl) rfl
theorem ev31_1 : PCok Try.prog 31 [.v K2] [KL, KI] fun x K => x = ([(5, 4), (9, 5), (2, 3)], ()) /\ K ([0, 1, 2, 2, 4, 4, 6, 7, 8, 4, 10, 11, 12, 13, 14, 15, 16, 17, 18, 19, 20, 21, 22, 23], 0, ()) := pc_evalC (lf := 1000) (n := 100) tab0 _ _ (ps := []) (by kernel_rfl) rfl
def tb31 : List (((List (Int × Int))) × ((List Int) × (Int))) := [(([(1, 1)]), ([], 83)), (([(5, 4), (9, 5), (2, 3)]), ([0, 1, 2, 2, 4, 4, 6, 7, 8, 4, 10, 11, 12, 13, 14, 15, 16, 17, 18, 19, 20, 21, 22, 23], 0))]
abbrev fk31 : FC := ⟨[.v K2], [KL, KI], fun x K => whenO (lookE tb31 (x.1)) fun r => K (r.1, r.2, ())⟩
theorem kk31 : FnOk Try.prog 31 fk31 := fun x K hx => by
 obtain ⟨a, ⟨⟩⟩ := x
 obtain ⟨r, hr, hK⟩ := whenO_iff.1 hx
 have hm := lookE_mem hr
 simp only [tb31, List.mem_cons, List.not_mem_nil, or_false] at hm
 rcases hm with h | h
 ·obtain ⟨h1, rfl⟩ := Prod.mk.inj h
  have e : (a, ()) = _ := congrArg (fun q : (List (Int × Int)) => (q, ())) h1
  exact ev31_0 _ _ ⟨e, hK⟩
 ·obtain ⟨h1, rfl⟩ := Prod.mk.inj h
  have e : (a, ()) = _ := congrArg (fun q : (List (Int × Int)) => (q, ())) h1
  exact ev31_1 _ _ ⟨e, hK⟩
theorem ev32_0 : PCok Try.prog 32 [.v KP, .v K2, .v KW] [KP, KI] fun x K => x = ([(1, 0, 30), (2, 3, 50), (4, 1, 45), (8, 0, 60)], [(0, 1), (3, 0)], (5, 100, 40, 2), ()) /\ K ([(0, 2, 125)], 0, ()) := pc_evalC (lf := 1000) (n := 100) tab0 _ _ (ps := []) (by kernel_rfl) rfl
theorem ev32_1 : PCok Try.prog 32 [.v KP, .v K2, .v KW] [KP, KI] fun x K => x = ([(1, 0, 30), (2, 3, 50), (4, 1, 45), (8, 0, 60)], [(0, 1)], (1, 1, 2, 1), ()) /\ K ([], 83, ()) := pc_evalC (lf := 1000) (n := 100) tab0 _ _ (ps := []) (by kernel_rfl) rfl
theorem ev32_2 : PCok Try.prog 32 [.v KP, .v K2, .v KW] [KP, KI] fun x K => x = ([(1, 0, 30), (2, 3, 50), (4, 1, 45), (8, 0, 60)], [(0, 3), (0, 1)], (5, 1000, 45, 2), ()) /\ K ([(0, 2, 125)], 0, ()) := pc_evalC (lf := 1000) (n := 100) tab0 _ _ (ps := []) (by kernel_rfl) rfl
def tb32 : List (((List (Int × Int × Int)) × (List (Int × Int)) × (Int × Int × Int × Int)) × ((List (Int × Int × Int)) × (Int))) := [(([(1, 0, 30), (2, 3, 50), (4, 1, 45), (8, 0, 60)], [(0, 1), (3, 0)], (5, 100, 40, 2)), ([(0, 2, 125)], 0)), (([(1, 0, 30), (2, 3, 50), (4, 1, 45), (8, 0, 60)], [(0, 1)], (1, 1, 2, 1)), ([], 83)), (([(1, 0, 30), (2, 3, 50), (4, 1, 45), (8, 0, 60)], [(0, 3), (0, 1)], (5, 1000, 45, 2)), ([(0, 2, 125)], 0))]
abbrev fk32 : FC := ⟨[.v KP, .v K2, .v KW], [KP, KI], fun x K => whenO (lookE tb32 (x.1, x.2.1, x.2.2.1)) fun r => K (r.1, r.2, ())⟩
theorem kk32 : FnOk Try.prog 32 fk32 := fun x K hx => by
 obtain ⟨a, b, c, ⟨⟩⟩ := x
 obtain ⟨r, hr, hK⟩ := whenO_iff.1 hx
 have hm := lookE_mem hr
 simp only [tb32, List.mem_cons, List.not_mem_nil, or_false] at hm
 rcases hm with h | h | h
 ·obtain ⟨h1, rfl⟩ := Prod.mk.inj h
  have e : (a, b, c, ()) = _ := congrArg (fun q : (List (Int × Int × Int)) × (List (Int × Int)) × (Int × Int × Int × Int) => (q.1, q.2.1, q.2.2, ())) h1
  exact ev32_0 _ _ ⟨e, hK⟩
 ·obtain ⟨h1, rfl⟩ := Prod.mk.inj h
  have e : (a, b, c, ()) = _ := congrArg (fun q : (List (Int × Int × Int)) × (List (Int × Int)) × (Int × Int × Int × Int) => (q.1, q.2.1, q.2.2, ())) h1
  exact ev32_1 _ _ ⟨e, hK⟩
 ·obtain ⟨h1, rfl⟩ := Prod.mk.inj h
  have e : (a, b, c, ()) = _ := congrArg (fun q : (List (Int × Int × Int)) × (List (Int × Int)) × (Int × Int × Int × Int) => (q.1, q.2.1, q.2.2, ())) h1
  exact ev32_2 _ _ ⟨e, hK⟩
theorem ev34_0 : PCok Try.prog 34 [.v KP, .v K2, .v KW, .v KI] [KL, KI] fun x K => x = ([(1, 0, 30), (2, 3, 50), (4, 1, 45), (8, 0, 60)], [(0, 1)], (5, 100, 40, 2), 2, ()) /\ K ([], 4, ()) := pc_evalC (lf := 1000) (n := 100) tab0 _ _ (ps := []) (by kernel_rfl) rfl
theorem ev34_1 : PCok Try.prog 34 [.v KP, .v K2, .v KW, .v KI] [KL, KI] fun x K => x = ([(1, 0, 30), (2, 3, 50), (4, 1, 45), (8, 0, 60)], [(0, 1)], (5, 100, 40, 2), 4, ()) /\ K ([], 7, ()) := pc_evalC (lf := 1000) (n := 100) tab0 _ _ (ps := []) (by kernel_rfl) rfl
theorem ev34_2 : PCok Try.prog 34 [.v KP, .v K2, .v KW, .v KI] [KL, KI] fun x K => x = ([(1, 0, 30), (2, 3, 50), (4, 1, 45), (8, 0, 60)], [(0, 3), (0, 1)], (5, 1000, 45, 2), 2, ()) /\ K ([1, 2], 0, ()) := pc_evalC (lf := 1000) (n := 100) tab0 _ _ (ps := []) (by kernel_rfl) rfl
def tb34 : List (((List (Int × Int × Int)) × (List (Int × Int)) × (Int × Int × Int × Int) × (Int)) × ((List Int) × (Int))) := [(([(1, 0, 30), (2, 3, 50), (4, 1, 45), (8, 0, 60)], [(0, 1)], (5, 100, 40, 2), 2), ([], 4)), (([(1, 0, 30), (2, 3, 50), (4, 1, 45), (8, 0, 60)], [(0, 1)], (5, 100, 40, 2), 4), ([], 7)), (([(1, 0, 30), (2, 3, 50), (4, 1, 45), (8, 0, 60)], [(0, 3), (0, 1)], (5, 1000, 45, 2), 2), ([1, 2], 0))]
abbrev fk34 : FC := ⟨[.v KP, .v K2, .v KW, .v KI], [KL, KI], fun x K => whenO (lookE tb34 (x.1, x.2.1, x.2.2.1, x.2.2.2.1)) fun r => K (r.1, r.2, ())⟩
theorem kk34 : FnOk Try.prog 34 fk34 := fun x K hx => by
 obtain ⟨a, b, c, d, ⟨⟩⟩ := x
 obtain ⟨r, hr, hK⟩ := whenO_iff.1 hx
 have hm := lookE_mem hr
 simp only [tb34, List.mem_cons, List.not_mem_nil, or_false] at hm
 rcases hm with h | h | h
 ·obtain ⟨h1, rfl⟩ := Prod.mk.inj h
  have e : (a, b, c, d, ()) = _ := congrArg (fun q : (List (Int × Int × Int)) × (List (Int × Int)) × (Int × Int × Int × Int) × (Int) => (q.1, q.2.1, q.2.2.1, q.2.2.2, ())) h1
  exact ev34_0 _ _ ⟨e, hK⟩
 ·obtain ⟨h1, rfl⟩ := Prod.mk.inj h
  have e : (a, b, c, d, ()) = _ := congrArg (fun q : (List (Int × Int × Int)) × (List (Int × Int)) × (Int × Int × Int × Int) × (Int) => (q.1, q.2.1, q.2.2.1, q.2.2.2, ())) h1
  exact ev34_1 _ _ ⟨e, hK⟩
 ·obtain ⟨h1, rfl⟩ := Prod.mk.inj h
  have e : (a, b, c, d, ()) = _ := congrArg (fun q : (List (Int × Int × Int)) × (List (Int × Int)) × (Int × Int × Int × Int) × (Int) => (q.1, q.2.1, q.2.2.1, q.2.2.2, ())) h1
  exact ev34_2 _ _ ⟨e, hK⟩
end Go.P8
