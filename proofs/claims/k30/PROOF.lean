import PyProof.Rows.All
import Wide.All
import OpenK.AllK
import Wide.FinOn
import HandS.ForMost
import HandS.IsInst
import HandS.Deep
import HandS.TupLen
import PyProof.StrBlock2
import HandS.More
import HandS.SetFor
import HandS.RevRange
import HandS.StrMore
import PyProof.DictMoreH
import HandS.SetKeys
import HandS.DictComp
import HandS.SortRule
import HandS.SortInts
import KE.KDictCopyH
import HandS.ListItems
import HandS.TryOnly
import HandS.ReplaceLit
import HandS.ReplaceDef
import HandS.ReplaceList
import PySem.Challenge.RW_corpuskeep_k30_told_chains
set_option Elab.async false
set_option linter.all false
set_option maxRecDepth 100000
set_option maxHeartbeats 8000000
/-! A layer of plain data over the hand layer: what a def does to data, no address in sight. -/
namespace DS
open PySem PySem.Spec PyProof.Rows L2

/-- a class of the module's top, by its name -/
def NmC (K : PySem.W.Frag) (x : Str) (C : Addr) : Prop := PySem.W.nsIn K mainGlobals x = some (some (.ref C))
theorem NmC.eq {K : PySem.W.Frag} {x : Str} {C D : Addr} (h : NmC K x C) (h' : NmC K x D) : C = D := by
  have e := h.symm.trans h'
  cases e
  rfl
inductive TyN where | list | tuple | str | int | bool | dict
  deriving DecidableEq
def TyN.s : TyN → String
  | .list => "list"
  | .tuple => "tuple"
  | .str => "str"
  | .int => "int"
  | .bool => "bool"
  | .dict => "dict"
/-- plain data -/
inductive D where
  | non | bl (b : Bool) | int (i : Int) | str (x : Str)
  | lst (xs : List D) | rol (xs : List D) | tup (xs : List D) | rot (xs : List D)
  | dK (kvs : List (Key × D)) | dT (kvs : List (List Key × D))
  | lK (kvs : List (Key × D)) | lT (kvs : List (List Key × D))
  | ins (C : Str) (fs : List (Str × D))
  | exc (a : Addr) (d : Option Addr) (C : Str) (fs : List (Str × D))
  | ty (n : TyN)
  | adr (p : Addr)

mutual
/-- a value stands for data, all of it in the frozen part F -/
inductive Rep (K : PySem.W.Frag) (F : Hp) : V → D → Prop
  | non : Rep K F .non .non
  | bl (b : Bool) : Rep K F (.bl b) (.bl b)
  | int (i : Int) : Rep K F (.int i) (.int i)
  | str (x : Str) : Rep K F (.str x) (.str x)
  | ty (n : TyN) : Rep K F (.ty n.s) (.ty n)
  | adr (p : Addr) : Rep K F (.ref p) (.adr p)
  | lst {a : Addr} {vs : List V} {ds : List D} : F a = some (.lst vs) → Reps K F vs ds → Rep K F (.ref a) (.lst ds)
  | rol {a : Addr} {vs : List V} {ds : List D} : SqL K F a vs → Reps K F vs ds → Rep K F (.ref a) (.rol ds)
  | tup {a : Addr} {vs : List V} {ds : List D} : F a = some (.tup vs) → Reps K F vs ds → Rep K F (.ref a) (.tup ds)
  | rot {a : Addr} {vs : List V} {ds : List D} : SqT K F a vs → Reps K F vs ds → Rep K F (.ref a) (.rot ds)
  | dK {a : Addr} {vs : List (Key × V)} {ds : List (Key × D)} : F a = some (.dK vs) → RepA K F vs ds → Rep K F (.ref a) (.dK ds)
  | dT {a : Addr} {vs : List (List Key × V)} {ds : List (List Key × D)} : F a = some (.dT vs) → RepA K F vs ds → Rep K F (.ref a) (.dT ds)
  | lK {a : Addr} {o : Obj} {vs : List (Key × V)} {ds : List (Key × D)} : F a = some (.frz o (.dK vs)) → RepA K F vs ds → Rep K F (.ref a) (.lK ds)
  | lT {a : Addr} {o : Obj} {vs : List (List Key × V)} {ds : List (List Key × D)} : F a = some (.frz o (.dT vs)) → RepA K F vs ds → Rep K F (.ref a) (.lT ds)
  | ins {a C dx : Addr} {x : Str} {vs : List (Str × V)} {ds : List (Str × D)} : NmC K x C → F a = some (.ins C dx vs) → RepA K F vs ds → Rep K F (.ref a) (.ins x ds)
  | exc0 {a : Addr} {x : Str} : Rep K F (.ref a) (.exc a none x [])
  | exc {a d : Addr} {x : Str} {vs : List (Str × V)} {ds : List (Str × D)} : F d = some (.xd vs) → RepA K F vs ds → Rep K F (.ref a) (.exc a (some d) x ds)
inductive Reps (K : PySem.W.Frag) (F : Hp) : List V → List D → Prop
  | nil : Reps K F [] []
  | cons {v : V} {vs : List V} {d : D} {ds : List D} : Rep K F v d → Reps K F vs ds → Reps K F (v :: vs) (d :: ds)
inductive RepA (K : PySem.W.Frag) (F : Hp) : {κ : Type} → List (κ × V) → List (κ × D) → Prop
  | nil {κ : Type} : RepA K F ([] : List (κ × V)) []
  | cons {κ : Type} {k : κ} {v : V} {vs : List (κ × V)} {d : D} {ds : List (κ × D)} : Rep K F v d → RepA K F vs ds → RepA K F ((k, v) :: vs) ((k, d) :: ds)
end

section
variable {K : PySem.W.Frag} {F F' H H' : Hp}
theorem same_seqT (e : Same F F') {a : Addr} {xs : List V} (h : SqT K F a xs) : SqT K F' a xs := by
  rcases h with (h | ⟨o, h⟩) | h
  · exact .inl (.inl (e _ _ h))
  · exact .inl (.inr ⟨o, e _ _ h⟩)
  · exact .inr h
theorem Rep.mono {v : V} {d : D} (e : Same F F') (h : Rep K F v d) : Rep K F' v d := by
  refine Rep.rec (motive_1 := fun v d _ => Rep K F' v d) (motive_2 := fun vs ds _ => Reps K F' vs ds) (motive_3 := fun {κ} vs ds _ => RepA K F' vs ds)
    .non .bl .int .str .ty .adr (fun h _ r => .lst (e _ _ h) r) (fun h _ r => .rol (e.seq h) r) (fun h _ r => .tup (e _ _ h) r) (fun h _ r => .rot (same_seqT e h) r)
    (fun h _ r => .dK (e _ _ h) r) (fun h _ r => .dT (e _ _ h) r) (fun h _ r => .lK (e _ _ h) r) (fun h _ r => .lT (e _ _ h) r) (fun n h _ r => .ins n (e _ _ h) r) .exc0 (fun h _ r => .exc (e _ _ h) r) .nil (fun _ _ a b => .cons a b) .nil (fun _ _ a b => .cons a b) h
theorem Reps.mono {vs : List V} {ds : List D} (e : Same F F') (h : Reps K F vs ds) : Reps K F' vs ds := by
  refine Reps.rec (motive_1 := fun v d _ => Rep K F' v d) (motive_2 := fun vs ds _ => Reps K F' vs ds) (motive_3 := fun {κ} vs ds _ => RepA K F' vs ds)
    .non .bl .int .str .ty .adr (fun h _ r => .lst (e _ _ h) r) (fun h _ r => .rol (e.seq h) r) (fun h _ r => .tup (e _ _ h) r) (fun h _ r => .rot (same_seqT e h) r)
    (fun h _ r => .dK (e _ _ h) r) (fun h _ r => .dT (e _ _ h) r) (fun h _ r => .lK (e _ _ h) r) (fun h _ r => .lT (e _ _ h) r) (fun n h _ r => .ins n (e _ _ h) r) .exc0 (fun h _ r => .exc (e _ _ h) r) .nil (fun _ _ a b => .cons a b) .nil (fun _ _ a b => .cons a b) h
theorem RepA.mono {κ : Type} {vs : List (κ × V)} {ds : List (κ × D)} (e : Same F F') (h : RepA K F vs ds) : RepA K F' vs ds := by
  refine RepA.rec (motive_1 := fun v d _ => Rep K F' v d) (motive_2 := fun vs ds _ => Reps K F' vs ds) (motive_3 := fun {κ} vs ds _ => RepA K F' vs ds)
    .non .bl .int .str .ty .adr (fun h _ r => .lst (e _ _ h) r) (fun h _ r => .rol (e.seq h) r) (fun h _ r => .tup (e _ _ h) r) (fun h _ r => .rot (same_seqT e h) r)
    (fun h _ r => .dK (e _ _ h) r) (fun h _ r => .dT (e _ _ h) r) (fun h _ r => .lK (e _ _ h) r) (fun h _ r => .lT (e _ _ h) r) (fun n h _ r => .ins n (e _ _ h) r) .exc0 (fun h _ r => .exc (e _ _ h) r) .nil (fun _ _ a b => .cons a b) .nil (fun _ _ a b => .cons a b) h
theorem Reps.length : ∀ {vs : List V} {ds : List D}, Reps K F vs ds → vs.length = ds.length
  | _, _, .nil => rfl
  | _, _, .cons _ t => congrArg (· + 1) t.length
theorem Reps.get : ∀ {vs : List V} {ds : List D} {i : Nat} {v : V}, Reps K F vs ds → vs[i]? = some v → ∃ d, ds[i]? = some d ∧ Rep K F v d
  | _, _, _, _, .nil, e => by simp at e
  | _, _, 0, _, .cons r _, e => by simp at e; subst e; exact ⟨_, rfl, r⟩
  | _, _, i + 1, v, .cons _ t, e => by
    obtain ⟨d, h1, h2⟩ := Reps.get (i := i) (v := v) t (by simpa using e)
    exact ⟨d, by simpa using h1, h2⟩
theorem Reps.get' : ∀ {vs : List V} {ds : List D} {i : Nat} {d : D}, Reps K F vs ds → ds[i]? = some d → ∃ v, vs[i]? = some v ∧ Rep K F v d
  | _, _, _, _, .nil, e => by simp at e
  | _, _, 0, _, .cons r _, e => by simp at e; subst e; exact ⟨_, rfl, r⟩
  | _, _, i + 1, v, .cons _ t, e => by
    obtain ⟨d, h1, h2⟩ := Reps.get' (i := i) (d := v) t (by simpa using e)
    exact ⟨d, by simpa using h1, h2⟩
theorem Reps.append : ∀ {xs ys : List V} {us ws : List D}, Reps K F xs us → Reps K F ys ws → Reps K F (xs ++ ys) (us ++ ws)
  | _, _, _, _, .nil, s => s
  | _, _, _, _, .cons r t, s => .cons r (Reps.append t s)
theorem Reps.take : ∀ {xs : List V} {us : List D} (n : Nat), Reps K F xs us → Reps K F (xs.take n) (us.take n)
  | _, _, 0, _ => .nil
  | _, _, _ + 1, .nil => .nil
  | _, _, n + 1, .cons r t => .cons r (Reps.take n t)
theorem Reps.drop : ∀ {xs : List V} {us : List D} (n : Nat), Reps K F xs us → Reps K F (xs.drop n) (us.drop n)
  | _, _, 0, r => r
  | _, _, _ + 1, .nil => .nil
  | _, _, n + 1, .cons _ t => Reps.drop n t
theorem Reps.set {x : V} {u : D} (r : Rep K F x u) : ∀ {xs : List V} {us : List D} (i : Nat), Reps K F xs us → Reps K F (xs.set i x) (us.set i u)
  | _, _, _, .nil => .nil
  | _, _, 0, .cons _ t => .cons r t
  | _, _, i + 1, .cons q t => .cons q (Reps.set r i t)
theorem Reps.reverse {xs : List V} {us : List D} (h : Reps K F xs us) : Reps K F xs.reverse us.reverse := by
  induction xs generalizing us with
  | nil => cases h; exact .nil
  | cons x xs ih =>
    cases h with
    | cons r t => rw [List.reverse_cons, List.reverse_cons]; exact (ih t).append (.cons r .nil)
theorem Reps.rep {xs : List V} {us : List D} (h : Reps K F xs us) : ∀ k : Nat, Reps K F (List.replicate k xs).flatten (List.replicate k us).flatten
  | 0 => .nil
  | k + 1 => by
    rw [List.replicate_succ, List.replicate_succ, List.flatten_cons, List.flatten_cons]
    exact Reps.append h (Reps.rep h k)
theorem Reps.eraseIdx : ∀ {xs : List V} {us : List D} (i : Nat), Reps K F xs us → Reps K F (xs.eraseIdx i) (us.eraseIdx i)
  | _, _, _, .nil => .nil
  | _, _, 0, .cons _ t => t
  | _, _, i + 1, .cons r t => .cons r (Reps.eraseIdx i t)
theorem Reps.dropLast : ∀ {xs : List V} {us : List D}, Reps K F xs us → Reps K F xs.dropLast us.dropLast
  | _, _, .nil => .nil
  | _, _, .cons r .nil => .nil
  | _, _, .cons r (.cons r' t) => .cons r (Reps.dropLast (.cons r' t))
theorem Reps.ints : ∀ {xs : List V} {ns : List Int}, Reps K F xs (ns.map D.int) → xs = ns.map V.int
  | _, [], h => by cases h; rfl
  | _, n :: ns, h => by
    cases h with
    | cons r t => cases r; rw [List.map_cons, Reps.ints t]
theorem reps_ints : ∀ (ns : List Int), Reps K F (ns.map V.int) (ns.map D.int)
  | [] => .nil
  | n :: ns => .cons (.int n) (reps_ints ns)
theorem Reps.strs : ∀ {xs : List V} {ns : List Str}, Reps K F xs (ns.map D.str) → xs = ns.map V.str
  | _, [], h => by cases h; rfl
  | _, n :: ns, h => by
    cases h with
    | cons r t => cases r; rw [List.map_cons, Reps.strs t]
theorem reps_strs : ∀ (ns : List Str), Reps K F (ns.map V.str) (ns.map D.str)
  | [] => .nil
  | n :: ns => .cons (.str n) (reps_strs ns)
end

/-! ### the state -/
inductive Ow where | no | own | lent
  deriving DecidableEq
/-- what a slot holds: data that nobody changes any more (no), an object of one's own (own), of the caller's (lent) -/
structure AV where
  o : Ow
  c : D
abbrev PSt := List (Option AV)
inductive Res where | dat (d : D) | new (d : D) | slot (i : Nat)
structure Exc where
  C : Str
  fs : List (Str × D)

/-- an object as it stands, its parts in F -/
inductive Top (K : PySem.W.Frag) (F : Hp) : HO → D → Prop
  | lst {vs : List V} {ds : List D} : Reps K F vs ds → Top K F (.lst vs) (.lst ds)
  | dK {vs : List (Key × V)} {ds : List (Key × D)} : RepA K F vs ds → Top K F (.dK vs) (.dK ds)
  | dT {vs : List (List Key × V)} {ds : List (List Key × D)} : RepA K F vs ds → Top K F (.dT vs) (.dT ds)
  | lK {o : Obj} {vs : List (Key × V)} {ds : List (Key × D)} : RepA K F vs ds → Top K F (.frz o (.dK vs)) (.lK ds)
  | lT {o : Obj} {vs : List (List Key × V)} {ds : List (List Key × D)} : RepA K F vs ds → Top K F (.frz o (.dT vs)) (.lT ds)
  | ins {C dx : Addr} {x : Str} {vs : List (Str × V)} {ds : List (Str × D)} : NmC K x C → RepA K F vs ds → Top K F (.ins C dx vs) (.ins x ds)
def TopAt (K : PySem.W.Frag) (F H : Hp) (p : Addr) (d : D) : Prop := ∃ o, H p = some o ∧ Top K F o d
theorem Top.mono {K : PySem.W.Frag} {F F' : Hp} {o : HO} {d : D} (e : Same F F') (h : Top K F o d) : Top K F' o d := by
  cases h with
  | lst r => exact .lst (r.mono e)
  | dK r => exact .dK (r.mono e)
  | dT r => exact .dT (r.mono e)
  | lK r => exact .lK (r.mono e)
  | lT r => exact .lT (r.mono e)
  | ins n r => exact .ins n (r.mono e)
/-- frozen, it stands for the same -/
theorem Top.rep {K : PySem.W.Frag} {F F' : Hp} {p : Addr} {o : HO} {d : D} (e : Same F F') (h : Top K F o d) (hp : F' p = some o) : Rep K F' (.ref p) d := by
  cases h with
  | lst r => exact .lst hp (r.mono e)
  | dK r => exact .dK hp (r.mono e)
  | dT r => exact .dT hp (r.mono e)
  | lK r => exact .lK hp (r.mono e)
  | lT r => exact .lT hp (r.mono e)
  | ins n r => exact .ins n hp (r.mono e)

/-- the state at a def's entry: its frozen part, its heap, what is lent, the arguments -/
structure En where
  F : Hp
  H : Hp
  L : Addr → Prop
  vs : List V

def OwnAt (K : PySem.W.Frag) (E : En) (F H : Hp) (i : Nat) (v : V) (av : AV) : Prop :=
  match av.o with
  | .no => Rep K F v av.c
  | .own => ∃ p, v = .ref p ∧ F p = none ∧ E.H p = none ∧ TopAt K F H p av.c
  | .lent => ∃ p, v = .ref p ∧ F p = none ∧ E.L p ∧ E.vs[i]? = some (.ref p) ∧ TopAt K F H p av.c

structure Rel (K : PySem.W.Frag) (E : En) (F H : Hp) (σ : L2.St) (a : PSt) : Prop where
  ext : Same F H
  f0 : Same E.F F
  new : ∀ p o, F p = some o → E.F p = some o ∨ E.H p = none ∨ ∃ xs, o = .tup xs
  keep : ∀ p o, E.H p = some o → ¬ E.L p → H p = some o
  dom : ∀ p, H p = none → E.H p = none
  lt : ∀ p, E.L p → E.H p ≠ none
  len : a.length = σ.length
  sl : ∀ (i : Nat) (av : AV), a[i]? = some (some av) → ∃ v, σ[i]? = some (some v) ∧ OwnAt K E F H i v av
  dis : ∀ (i j : Nat) (ai aj : AV) (p : Addr), i ≠ j → a[i]? = some (some ai) → a[j]? = some (some aj) → ai.o ≠ .no → aj.o ≠ .no → σ[i]? = some (some (.ref p)) → σ[j]? = some (some (.ref p)) → False

/-- what the slots own -/
def Owned (σ : L2.St) (a : PSt) (p : Addr) : Prop := ∃ (i : Nat) (av : AV), a[i]? = some (some av) ∧ av.o ≠ .no ∧ σ[i]? = some (some (.ref p))

def RepR (K : PySem.W.Frag) (E : En) (F H : Hp) (σ : L2.St) (a : PSt) (v : V) : Res → Prop
  | .dat d => Rep K F v d
  | .new d => ∃ p, v = .ref p ∧ F p = none ∧ E.H p = none ∧ TopAt K F H p d ∧ ¬ Owned σ a p
  | .slot i => σ[i]? = some (some v)

section
variable {K : PySem.W.Frag} {E : En} {F F' H H' : Hp} {σ : L2.St} {a : PSt}
theorem OwnAt.mono {i : Nat} {v : V} {av : AV} (e : Same F F') (h : OwnAt K E F H i v av) (hn : ∀ p, v = .ref p → av.o ≠ .no → F p = none → F' p = none) : OwnAt K E F' H i v av := by
  unfold OwnAt at *
  obtain ⟨o, c⟩ := av
  cases o with
  | no => exact Rep.mono e h
  | own =>
    obtain ⟨p, rfl, h1, h2, o, h3, h4⟩ := h
    exact ⟨p, rfl, hn p rfl (by simp) h1, h2, o, h3, h4.mono e⟩
  | lent =>
    obtain ⟨p, rfl, h1, h2, h5, o, h3, h4⟩ := h
    exact ⟨p, rfl, hn p rfl (by simp) h1, h2, h5, o, h3, h4.mono e⟩
theorem OwnAt.fnone {i : Nat} {p : Addr} {av : AV} (h : OwnAt K E F H i (.ref p) av) (ho : av.o ≠ .no) : F p = none := by
  unfold OwnAt at h
  obtain ⟨o, c⟩ := av
  cases o with
  | no => exact absurd rfl ho
  | own => obtain ⟨q, e, h1, _⟩ := h; cases e; exact h1
  | lent => obtain ⟨q, e, h1, _⟩ := h; cases e; exact h1
theorem OwnAt.top {i : Nat} {p : Addr} {av : AV} (h : OwnAt K E F H i (.ref p) av) (ho : av.o ≠ .no) : TopAt K F H p av.c := by
  unfold OwnAt at h
  obtain ⟨o, c⟩ := av
  cases o with
  | no => exact absurd rfl ho
  | own => obtain ⟨q, e, h1, h2, h3⟩ := h; cases e; exact h3
  | lent => obtain ⟨q, e, h1, h2, h3, h4⟩ := h; cases e; exact h4
theorem Rel.owned_f (R : Rel K E F H σ a) {p : Addr} (h : Owned σ a p) : F p = none := by
  obtain ⟨i, av, h1, h2, h3⟩ := h
  obtain ⟨v, e, q⟩ := R.sl i av h1
  rw [h3] at e
  cases e
  exact q.fnone h2
theorem Rel.owned_h (R : Rel K E F H σ a) {p : Addr} (h : Owned σ a p) : H p ≠ none := by
  obtain ⟨i, av, h1, h2, h3⟩ := h
  obtain ⟨v, e, q⟩ := R.sl i av h1
  rw [h3] at e
  cases e
  obtain ⟨o, ho, _⟩ := q.top h2
  rw [ho]
  exact fun z => by cases z
/-- a new address is no slot's -/
theorem Rel.fresh (R : Rel K E F H σ a) {p : Addr} (h : H p = none) : F p = none ∧ E.H p = none ∧ ¬ Owned σ a p :=
  ⟨R.ext.free h, R.dom p h, fun z => R.owned_h z h⟩
/-- a new object is laid, outside of F -/
theorem Rel.lay (R : Rel K E F H σ a) {p : Addr} (o : HO) (h : H p = none) : Rel K E F (upd H p o) σ a where
  ext := fun b u e => by rw [upd_ne (ne_of_none (R.ext _ _ e) h)]; exact R.ext _ _ e
  f0 := R.f0
  new := R.new
  keep := fun b u e l => by rw [upd_ne (ne_of_none (R.keep _ _ e l) h)]; exact R.keep _ _ e l
  dom := fun b e => by
    by_cases hb : b = p
    · rw [hb]; exact R.dom p h
    · rw [upd_ne hb] at e; exact R.dom b e
  lt := R.lt
  len := R.len
  sl := fun i av e => by
    obtain ⟨v, e1, q⟩ := R.sl i av e
    refine ⟨v, e1, ?_⟩
    unfold OwnAt at *
    obtain ⟨ow, c⟩ := av
    cases ow with
    | no => exact q
    | own =>
      obtain ⟨b, rfl, h1, h2, u, h3, h4⟩ := q
      exact ⟨b, rfl, h1, h2, u, by rw [upd_ne (ne_of_none h3 h)]; exact h3, h4⟩
    | lent =>
      obtain ⟨b, rfl, h1, h2, h5, u, h3, h4⟩ := q
      exact ⟨b, rfl, h1, h2, h5, u, by rw [upd_ne (ne_of_none h3 h)]; exact h3, h4⟩
  dis := R.dis
/-- an object that no slot owns joins the frozen part -/
theorem Rel.freeze (R : Rel K E F H σ a) {p : Addr} {o : HO} (h : H p = some o) (hF : F p = none) (hE : E.H p = none) (hn : ¬ Owned σ a p) : Same F (upd F p o) ∧ Rel K E (upd F p o) H σ a := by
  have s : Same F (upd F p o) := fun b u e => by rw [upd_ne (ne_of_none e hF)]; exact e
  refine ⟨s, ⟨fun b u e => ?_, R.f0.trans s, fun b u e => ?_, R.keep, R.dom, R.lt, R.len, fun i av e => ?_, R.dis⟩⟩
  · by_cases hb : b = p
    · subst hb; rw [upd_same] at e; rw [h]; exact e
    · rw [upd_ne hb] at e; exact R.ext _ _ e
  · by_cases hb : b = p
    · subst hb; exact .inr (.inl hE)
    · rw [upd_ne hb] at e; exact R.new _ _ e
  · obtain ⟨v, e1, q⟩ := R.sl i av e
    refine ⟨v, e1, q.mono s fun b hb ho hf => ?_⟩
    have : b ≠ p := fun z => hn ⟨i, av, e, ho, by rw [e1, hb, z]⟩
    rw [upd_ne this]
    exact hf
/-- a slot gives up its own object -/
theorem Rel.giveUp (R : Rel K E F H σ a) {i : Nat} {c : D} (h : a[i]? = some (some ⟨.own, c⟩)) :
    ∃ F2, Same F F2 ∧ Rel K E F2 H σ (a.set i (some ⟨.no, c⟩)) ∧ ∀ v, σ[i]? = some (some v) → Rep K F2 v c := by
  obtain ⟨v, e1, p, rfl, h1, h2, o, h3, h4⟩ := R.sl i _ h
  have hi : i < a.length := (List.getElem?_eq_some_iff.mp h).1
  have s : Same F (upd F p o) := fun b u e => by rw [upd_ne (ne_of_none e h1)]; exact e
  have rp : Rep K (upd F p o) (.ref p) c := h4.rep s upd_same
  refine ⟨upd F p o, s, ⟨fun b u e => ?_, R.f0.trans s, fun b u e => ?_, R.keep, R.dom, R.lt, by rw [List.length_set]; exact R.len, fun j av e => ?_, fun j k aj ak q hjk ej ek oj ok sj sk => ?_⟩, fun v hv => ?_⟩
  · by_cases hb : b = p
    · subst hb; rw [upd_same] at e; rw [h3]; exact e
    · rw [upd_ne hb] at e; exact R.ext _ _ e
  · by_cases hb : b = p
    · subst hb; exact .inr (.inl h2)
    · rw [upd_ne hb] at e; exact R.new _ _ e
  · by_cases hj : j = i
    · subst hj
      rw [List.getElem?_set_self hi] at e
      cases e
      exact ⟨_, e1, rp⟩
    · rw [List.getElem?_set_ne (Ne.symm hj)] at e
      obtain ⟨v, e2, q⟩ := R.sl j av e
      refine ⟨v, e2, q.mono s fun b hb ho hf => ?_⟩
      have : b ≠ p := fun z => R.dis j i av _ p hj e h ho (by simp) (by rw [e2, hb, z]) e1
      rw [upd_ne this]
      exact hf
  · have hj : j ≠ i := fun z => by
      subst z
      rw [List.getElem?_set_self hi] at ej
      cases ej
      exact oj rfl
    have hk : k ≠ i := fun z => by
      subst z
      rw [List.getElem?_set_self hi] at ek
      cases ek
      exact ok rfl
    rw [List.getElem?_set_ne (Ne.symm hj)] at ej
    rw [List.getElem?_set_ne (Ne.symm hk)] at ek
    exact R.dis j k aj ak q hjk ej ek oj ok sj sk
  · rw [e1] at hv
    cases hv
    exact rp
/-- a slot's own object is written -/
theorem Rel.write (R : Rel K E F H σ a) {i : Nat} {av : AV} {p : Addr} {o : HO} {c : D} (h : a[i]? = some (some av)) (ho : av.o ≠ .no) (hs : σ[i]? = some (some (.ref p))) (t : Top K F o c) :
    Rel K E F (upd H p o) σ (a.set i (some ⟨av.o, c⟩)) := by
  have hi : i < a.length := (List.getElem?_eq_some_iff.mp h).1
  have hF : F p = none := R.owned_f ⟨i, av, h, ho, hs⟩
  have hH : H p ≠ none := R.owned_h ⟨i, av, h, ho, hs⟩
  refine ⟨fun b u e => ?_, R.f0, R.new, fun b u e l => ?_, fun b e => ?_, R.lt, by rw [List.length_set]; exact R.len, fun j aj e => ?_, fun j k aj ak q hjk ej ek oj ok sj sk => ?_⟩
  · rw [upd_ne (ne_of_none e hF)]; exact R.ext _ _ e
  · have : b ≠ p := fun z => by
      subst z
      obtain ⟨v, e1, q⟩ := R.sl i av h
      rw [hs] at e1
      cases e1
      unfold OwnAt at q
      obtain ⟨ow, c'⟩ := av
      cases ow with
      | no => exact ho rfl
      | own => obtain ⟨r, e2, _, h2, _⟩ := q; cases e2; rw [h2] at e; cases e
      | lent => obtain ⟨r, e2, _, h2, _⟩ := q; cases e2; exact l h2
    rw [upd_ne this]; exact R.keep _ _ e l
  · by_cases hb : b = p
    · subst hb; rw [upd_same] at e; cases e
    · rw [upd_ne hb] at e; exact R.dom _ e
  · by_cases hj : j = i
    · subst hj
      rw [List.getElem?_set_self hi] at e
      cases e
      obtain ⟨v, e1, q⟩ := R.sl j av h
      rw [hs] at e1
      cases e1
      refine ⟨_, hs, ?_⟩
      unfold OwnAt at *
      obtain ⟨ow, c'⟩ := av
      cases ow with
      | no => exact absurd rfl ho
      | own => obtain ⟨r, e2, h1, h2, _⟩ := q; cases e2; exact ⟨_, rfl, h1, h2, _, upd_same, t⟩
      | lent => obtain ⟨r, e2, h1, h2, h5, _⟩ := q; cases e2; exact ⟨_, rfl, h1, h2, h5, _, upd_same, t⟩
    · rw [List.getElem?_set_ne (Ne.symm hj)] at e
      obtain ⟨v, e2, q⟩ := R.sl j aj e
      refine ⟨v, e2, ?_⟩
      by_cases hn : aj.o = .no
      · obtain ⟨ow, c'⟩ := aj
        obtain rfl : ow = .no := hn
        exact q
      · have hne : ∀ b, v = .ref b → b ≠ p := fun b hb z => R.dis j i aj av p hj e h hn ho (by rw [e2, hb, z]) hs
        unfold OwnAt at *
        obtain ⟨ow, c'⟩ := aj
        cases ow with
        | no => exact absurd rfl hn
        | own => obtain ⟨b, rfl, h1, h2, u, h3, h4⟩ := q; exact ⟨b, rfl, h1, h2, u, by rw [upd_ne (hne b rfl)]; exact h3, h4⟩
        | lent => obtain ⟨b, rfl, h1, h2, h5, u, h3, h4⟩ := q; exact ⟨b, rfl, h1, h2, h5, u, by rw [upd_ne (hne b rfl)]; exact h3, h4⟩
  · have f : ∀ (j : Nat) (aj : AV), (a.set i (some ⟨av.o, c⟩))[j]? = some (some aj) → ∃ bj : AV, a[j]? = some (some bj) ∧ bj.o = aj.o := fun j aj e => by
      by_cases hj : j = i
      · subst hj
        rw [List.getElem?_set_self hi] at e
        cases e
        exact ⟨av, h, rfl⟩
      · rw [List.getElem?_set_ne (Ne.symm hj)] at e
        exact ⟨aj, e, rfl⟩
    obtain ⟨bj, fj, gj⟩ := f j aj ej
    obtain ⟨bk, fk, gk⟩ := f k ak ek
    exact R.dis j k bj bk q hjk fj fk (by rw [gj]; exact oj) (by rw [gk]; exact ok) sj sk
/-- a slot is stored, data -/
theorem Rel.setDat (R : Rel K E F H σ a) {i : Nat} {v : V} {d : D} (r : Rep K F v d) : Rel K E F H (σ.set i (some v)) (a.set i (some ⟨.no, d⟩)) := by
  refine ⟨R.ext, R.f0, R.new, R.keep, R.dom, R.lt, by rw [List.length_set, List.length_set]; exact R.len, fun j av e => ?_, fun j k aj ak q hjk ej ek oj ok sj sk => ?_⟩
  · by_cases hj : j = i
    · subst hj
      have hi : j < a.length := by
        have := (List.getElem?_eq_some_iff.mp e).1
        rwa [List.length_set] at this
      rw [List.getElem?_set_self hi] at e
      cases e
      exact ⟨v, List.getElem?_set_self (by rw [← R.len]; exact hi), r⟩
    · rw [List.getElem?_set_ne (Ne.symm hj)] at e
      obtain ⟨u, e2, q⟩ := R.sl j av e
      exact ⟨u, by rw [List.getElem?_set_ne (Ne.symm hj)]; exact e2, q⟩
  · have hne : ∀ j aj, (a.set i (some ⟨.no, d⟩))[j]? = some (some aj) → aj.o ≠ .no → j ≠ i := fun j aj e ho z => by
      subst z
      have hi : j < a.length := by
        have := (List.getElem?_eq_some_iff.mp e).1
        rwa [List.length_set] at this
      rw [List.getElem?_set_self hi] at e
      cases e
      exact ho rfl
    have nj := hne j aj ej oj
    have nk := hne k ak ek ok
    rw [List.getElem?_set_ne (Ne.symm nj)] at ej sj
    rw [List.getElem?_set_ne (Ne.symm nk)] at ek sk
    exact R.dis j k aj ak q hjk ej ek oj ok sj sk
/-- a slot is stored, a new object of one's own -/
theorem Rel.setNew (R : Rel K E F H σ a) {i : Nat} {p : Addr} {d : D} (hF : F p = none) (hE : E.H p = none) (t : TopAt K F H p d) (hn : ¬ Owned σ a p) : Rel K E F H (σ.set i (some (.ref p))) (a.set i (some ⟨.own, d⟩)) := by
  refine ⟨R.ext, R.f0, R.new, R.keep, R.dom, R.lt, by rw [List.length_set, List.length_set]; exact R.len, fun j av e => ?_, fun j k aj ak q hjk ej ek oj ok sj sk => ?_⟩
  · by_cases hj : j = i
    · subst hj
      have hi : j < a.length := by
        have := (List.getElem?_eq_some_iff.mp e).1
        rwa [List.length_set] at this
      rw [List.getElem?_set_self hi] at e
      cases e
      exact ⟨_, List.getElem?_set_self (by rw [← R.len]; exact hi), p, rfl, hF, hE, t⟩
    · rw [List.getElem?_set_ne (Ne.symm hj)] at e
      obtain ⟨u, e2, q⟩ := R.sl j av e
      exact ⟨u, by rw [List.getElem?_set_ne (Ne.symm hj)]; exact e2, q⟩
  · have hlt : ∀ j aj, (a.set i (some ⟨.own, d⟩))[j]? = some (some aj) → j < a.length := fun j aj e => by
      have := (List.getElem?_eq_some_iff.mp e).1
      rwa [List.length_set] at this
    by_cases hj : j = i
    · subst hj
      have hk : k ≠ j := Ne.symm hjk
      rw [List.getElem?_set_ne (Ne.symm hk)] at ek sk
      rw [List.getElem?_set_self (by rw [← R.len]; exact hlt j aj ej)] at sj
      cases sj
      exact hn ⟨k, ak, ek, ok, sk⟩
    · by_cases hk : k = i
      · subst hk
        rw [List.getElem?_set_ne (Ne.symm hj)] at ej sj
        rw [List.getElem?_set_self (by rw [← R.len]; exact hlt k ak ek)] at sk
        cases sk
        exact hn ⟨j, aj, ej, oj, sj⟩
      · rw [List.getElem?_set_ne (Ne.symm hj)] at ej sj
        rw [List.getElem?_set_ne (Ne.symm hk)] at ek sk
        exact R.dis j k aj ak q hjk ej ek oj ok sj sk
/-- a slot is forgotten -/
theorem Rel.forget (R : Rel K E F H σ a) (i : Nat) (u : Option V) : Rel K E F H (σ.set i u) (a.set i none) := by
  have hne : ∀ j aj, (a.set i none)[j]? = some (some aj) → j ≠ i := fun j aj e z => by
    subst z
    have hi : j < a.length := by
      have := (List.getElem?_eq_some_iff.mp e).1
      rwa [List.length_set] at this
    rw [List.getElem?_set_self hi] at e
    cases e
  refine ⟨R.ext, R.f0, R.new, R.keep, R.dom, R.lt, by rw [List.length_set, List.length_set]; exact R.len, fun j av e => ?_, fun j k aj ak q hjk ej ek oj ok sj sk => ?_⟩
  · have hj := hne j av e
    rw [List.getElem?_set_ne (Ne.symm hj)] at e
    obtain ⟨u, e2, q⟩ := R.sl j av e
    exact ⟨u, by rw [List.getElem?_set_ne (Ne.symm hj)]; exact e2, q⟩
  · have nj := hne j aj ej
    have nk := hne k ak ek
    rw [List.getElem?_set_ne (Ne.symm nj)] at ej sj
    rw [List.getElem?_set_ne (Ne.symm nk)] at ek sk
    exact R.dis j k aj ak q hjk ej ek oj ok sj sk
end
end DS

namespace DS
open PySem PySem.Spec PyProof.Rows L2

abbrev WE := PSt → (Res → PSt → Prop) → (Exc → PSt → Prop) → Prop
abbrev WT := PSt → (Bool → PSt → Prop) → (Exc → PSt → Prop) → Prop
abbrev WA := PSt → (List Res → PSt → Prop) → (Exc → PSt → Prop) → Prop

def ExcR (K : PySem.W.Frag) (F H : Hp) (x : Exc) (cls : Value) (dx : Option Addr) : Prop :=
  (∃ C, NmC K x.C C ∧ cls = .ref C) ∧ match dx with
    | none => x.fs = []
    | some d => ∃ fs, F d = some (.xd fs) ∧ RepA K F fs x.fs
def Ln (K : PySem.W.Frag) (E : En) (F : Hp) (σ : L2.St) (q : Res → PSt → Prop) (Q : VK) : Prop :=
  ∀ v r F' H' a', Same F F' → Rel K E F' H' σ a' → RepR K E F' H' σ a' v r → q r a' → Q v H'
def Lx (K : PySem.W.Frag) (E : En) (F : Hp) (σ : L2.St) (qe : Exc → PSt → Prop) (W : XK) : Prop :=
  ∀ x a' cls dx F' H', Same F F' → Rel K E F' H' σ a' → ExcR K F' H' x cls dx → qe x a' → W cls dx H'
def Lt (K : PySem.W.Frag) (E : En) (F : Hp) (σ : L2.St) (q : Bool → PSt → Prop) (Q : Bool → Hp → Prop) : Prop :=
  ∀ b F' H' a', Same F F' → Rel K E F' H' σ a' → q b a' → Q b H'
abbrev RepRs (K : PySem.W.Frag) (E : En) (F H : Hp) (σ : L2.St) (a : PSt) : List V → List Res → Prop := Paired (RepR K E F H σ a)
def La (K : PySem.W.Frag) (E : En) (F : Hp) (σ : L2.St) (q : List Res → PSt → Prop) (Q : List V → Hp → Prop) : Prop :=
  ∀ vs rs F' H' a', Same F F' → Rel K E F' H' σ a' → RepRs K E F' H' σ a' vs rs → (∀ r ∈ rs, ∀ d, r ≠ .new d) → q rs a' → Q vs H'
theorem Ln.to {K : PySem.W.Frag} {E : En} {F F' : Hp} {σ : L2.St} {q : Res → PSt → Prop} {Q : VK} (l : Ln K E F σ q Q) (e : Same F F') : Ln K E F' σ q Q :=
  fun v r F2 H2 a2 e2 => l v r F2 H2 a2 (e.trans e2)
theorem Lx.to {K : PySem.W.Frag} {E : En} {F F' : Hp} {σ : L2.St} {q : Exc → PSt → Prop} {Q : XK} (l : Lx K E F σ q Q) (e : Same F F') : Lx K E F' σ q Q :=
  fun x a2 c dx F2 H2 e2 => l x a2 c dx F2 H2 (e.trans e2)
theorem Lt.to {K : PySem.W.Frag} {E : En} {F F' : Hp} {σ : L2.St} {q : Bool → PSt → Prop} {Q : Bool → Hp → Prop} (l : Lt K E F σ q Q) (e : Same F F') : Lt K E F' σ q Q :=
  fun b F2 H2 a2 e2 => l b F2 H2 a2 (e.trans e2)
theorem La.to {K : PySem.W.Frag} {E : En} {F F' : Hp} {σ : L2.St} {q : List Res → PSt → Prop} {Q : List V → Hp → Prop} (l : La K E F σ q Q) (e : Same F F') : La K E F' σ q Q :=
  fun vs rs F2 H2 a2 e2 => l vs rs F2 H2 a2 (e.trans e2)

/-! ### one way on, if the data are of the kind -/
def onO {α : Type} (o : Option α) (f : α → Prop) : Prop := match o with
  | some d => f d
  | none => False
theorem onO_iff {α : Type} {o : Option α} {f : α → Prop} : onO o f ↔ ∃ d, o = some d ∧ f d := by
  cases o <;> simp [onO]
theorem onO_of {α : Type} {o : Option α} {f : α → Prop} {d : α} (h : o = some d) (hf : f d) : onO o f := by rw [h]; exact hf
def onS (o : Option (Option AV)) (f : AV → Prop) : Prop := match o with
  | some (some d) => f d
  | _ => False
theorem onS_iff {o : Option (Option AV)} {f : AV → Prop} : onS o f ↔ ∃ d, o = some (some d) ∧ f d := by
  unfold onS
  split
  · exact ⟨fun h => ⟨_, rfl, h⟩, fun ⟨k, e, h⟩ => by cases e; exact h⟩
  · rename_i hno
    exact ⟨fun h => h.elim, fun ⟨k, e, h⟩ => (hno k e).elim⟩
def onB (o : Option D) (f : Bool → Prop) : Prop := match o with
  | some (.bl b) => f b
  | _ => False
theorem onB_iff {o : Option D} {f : Bool → Prop} : onB o f ↔ ∃ k, o = some (.bl k) ∧ f k := by
  unfold onB
  split
  · exact ⟨fun h => ⟨_, rfl, h⟩, fun ⟨k, e, h⟩ => by cases e; exact h⟩
  · rename_i hno
    exact ⟨fun h => h.elim, fun ⟨k, e, h⟩ => (hno k e).elim⟩
def onI (o : Option D) (f : Int → Prop) : Prop := match o with
  | some (.int b) => f b
  | _ => False
theorem onI_iff {o : Option D} {f : Int → Prop} : onI o f ↔ ∃ k, o = some (.int k) ∧ f k := by
  unfold onI
  split
  · exact ⟨fun h => ⟨_, rfl, h⟩, fun ⟨k, e, h⟩ => by cases e; exact h⟩
  · rename_i hno
    exact ⟨fun h => h.elim, fun ⟨k, e, h⟩ => (hno k e).elim⟩
def onLst (o : Option D) (f : List D → Prop) : Prop := match o with
  | some (.lst xs) => f xs
  | _ => False
theorem onLst_iff {o : Option D} {f : List D → Prop} : onLst o f ↔ ∃ xs, o = some (.lst xs) ∧ f xs := by
  unfold onLst
  split
  · exact ⟨fun h => ⟨_, rfl, h⟩, fun ⟨k, e, h⟩ => by cases e; exact h⟩
  · rename_i hno
    exact ⟨fun h => h.elim, fun ⟨k, e, h⟩ => (hno k e).elim⟩
def onOwn (x : Option (Option AV)) (f : Ow → List D → Prop) : Prop := match x with
  | some (some ⟨.own, .lst xs⟩) => f .own xs
  | some (some ⟨.lent, .lst xs⟩) => f .lent xs
  | _ => False
theorem onOwn_iff {x : Option (Option AV)} {f : Ow → List D → Prop} : onOwn x f ↔ ∃ o xs, x = some (some ⟨o, .lst xs⟩) ∧ o ≠ .no ∧ f o xs := by
  unfold onOwn
  split
  · exact ⟨fun h => ⟨_, _, rfl, by simp, h⟩, fun ⟨o, xs, e, _, h⟩ => by cases e; exact h⟩
  · exact ⟨fun h => ⟨_, _, rfl, by simp, h⟩, fun ⟨o, xs, e, _, h⟩ => by cases e; exact h⟩
  · rename_i h1 h2
    refine ⟨fun h => h.elim, fun ⟨o, xs, e, ho, h⟩ => ?_⟩
    cases o with
    | no => exact ho rfl
    | own => exact h1 xs e
    | lent => exact h2 xs e
def on1 (o : Option (List D)) (f : Int → Prop) : Prop := match o with
  | some [.int j] => f j
  | _ => False
theorem on1_iff {o : Option (List D)} {f : Int → Prop} : on1 o f ↔ ∃ j, o = some [.int j] ∧ f j := by
  unfold on1
  split
  · exact ⟨fun h => ⟨_, rfl, h⟩, fun ⟨k, e, h⟩ => by cases e; exact h⟩
  · rename_i hno
    exact ⟨fun h => h.elim, fun ⟨k, e, h⟩ => (hno k e).elim⟩
def on2 (o : Option (List D)) (f : Int → Int → Prop) : Prop := match o with
  | some [.int i, .int j] => f i j
  | _ => False
theorem on2_iff {o : Option (List D)} {f : Int → Int → Prop} : on2 o f ↔ ∃ i j, o = some [.int i, .int j] ∧ f i j := by
  unfold on2
  split
  · exact ⟨fun h => ⟨_, _, rfl, h⟩, fun ⟨i, k, e, h⟩ => by cases e; exact h⟩
  · rename_i hno
    exact ⟨fun h => h.elim, fun ⟨i, k, e, h⟩ => (hno i k e).elim⟩
/-- two ways -/
def br (b : Bool) (A B : Prop) : Prop := match b with
  | true => A
  | false => B
theorem br_tt {b : Bool} {A B : Prop} (h : br b A B) (e : b = true) : A := by rw [e] at h; exact h
theorem br_ff {b : Bool} {A B : Prop} (h : br b A B) (e : b = false) : B := by rw [e] at h; exact h
theorem br_i {p A B : Prop} [Decidable p] (h1 : p → A) (h2 : ¬ p → B) : br (decide p) A B := by
  by_cases h : p
  · rw [decide_eq_true h]; exact h1 h
  · rw [decide_eq_false h]; exact h2 h
theorem br_b {b : Bool} {A B : Prop} (h1 : b = true → A) (h2 : b = false → B) : br b A B := by
  cases b
  · exact h2 rfl
  · exact h1 rfl
theorem br_t {p A B : Prop} [Decidable p] (h : p) (a : A) : br (decide p) A B := br_i (fun _ => a) fun n => absurd h n
theorem br_f {p A B : Prop} [Decidable p] (h : ¬ p) (b : B) : br (decide p) A B := br_i (fun n => absurd n h) fun _ => b
theorem br_ni {p A B : Prop} [Decidable p] (h1 : ¬ p → A) (h2 : p → B) : br (!decide p) A B := by
  by_cases h : p
  · rw [decide_eq_true h]; exact h2 h
  · rw [decide_eq_false h]; exact h1 h
theorem br_nt {p A B : Prop} [Decidable p] (h : p) (b : B) : br (!decide p) A B := br_ni (fun n => absurd h n) fun _ => b
theorem br_nf {p A B : Prop} [Decidable p] (h : ¬ p) (a : A) : br (!decide p) A B := br_ni (fun _ => a) fun n => absurd n h

/-- an expression does to data what w says -/
def SE (X : Cx) (W : L2.St → XK) (e : Expr) (t : TE) (w : WE) : Prop := PE X e t ∧ ∀ E F H σ a Q q qe, Rel X.K E F H σ a → w a q qe → Ln X.K E F σ q Q → Lx X.K E F σ qe (W σ) → t σ H Q
def ST (X : Cx) (W : L2.St → XK) (e : Expr) (t : TT) (w : WT) : Prop := PT X e t ∧ ∀ E F H σ a Q q qe, Rel X.K E F H σ a → w a q qe → Lt X.K E F σ q Q → Lx X.K E F σ qe (W σ) → t σ H Q
def SW (X : Cx) (W : L2.St → XK) (e : Expr) (t : TT) (w : WT) : Prop := PW X e t ∧ ∀ E F H σ a Q q qe, Rel X.K E F H σ a → w a q qe → Lt X.K E F σ q Q → Lx X.K E F σ qe (W σ) → t σ H Q
def SA (X : Cx) (W : L2.St → XK) (es : List Expr) (t : TA) (w : WA) : Prop := PA X es t ∧ ∀ E F H σ a Q q qe, Rel X.K E F H σ a → w a q qe → La X.K E F σ q Q → Lx X.K E F σ qe (W σ) → t σ H Q

def hold : Res → Res
  | .new d => .dat d
  | r => r
/-- what a result is worth now -/
def con (a : PSt) : Res → Option D
  | .dat d => some d
  | .new d => some d
  | .slot i => match a[i]? with
    | some (some av) => some av.c
    | _ => none
/-- a result is handed on for good -/
def fz (r : Res) (a : PSt) (q : D → PSt → Prop) : Prop := match r with
  | .dat d => q d a
  | .new d => q d a
  | .slot i => match a[i]? with
    | some (some ⟨.no, c⟩) => q c a
    | some (some ⟨.own, c⟩) => q c (a.set i (some ⟨.no, c⟩))
    | _ => False
def RdD (K : PySem.W.Frag) (F H : Hp) (v : V) (d : D) : Prop := Rep K F v d ∨ ∃ p, v = .ref p ∧ TopAt K F H p d

section
variable {K : PySem.W.Frag} {E : En} {F F' H H' : Hp} {σ : L2.St} {a : PSt} {v : V} {r : Res}
theorem hold_ok (R : Rel K E F H σ a) (h : RepR K E F H σ a v r) : ∃ F2, Same F F2 ∧ Rel K E F2 H σ a ∧ RepR K E F2 H σ a v (hold r) := by
  cases r with
  | dat d => exact ⟨F, Same.refl F, R, h⟩
  | slot i => exact ⟨F, Same.refl F, R, h⟩
  | new d =>
    obtain ⟨p, rfl, h1, h2, ⟨o, h3, h4⟩, h5⟩ := h
    obtain ⟨s, R2⟩ := R.freeze h3 h1 h2 h5
    exact ⟨_, s, R2, h4.rep s upd_same⟩
theorem hold_new {r : Res} {d : D} : hold r ≠ .new d := by
  cases r <;> exact fun z => by cases z
/-- a held result stays over what comes -/
theorem held_on {a' : PSt} (e : Same F F') (h : RepR K E F H σ a v (hold r)) : RepR K E F' H' σ a' v (hold r) := by
  cases r with
  | dat d => exact Rep.mono e h
  | slot i => exact h
  | new d => exact Rep.mono e h
theorem res_on {a' : PSt} (e : Same F F') (hn : ∀ d, r ≠ .new d) (h : RepR K E F H σ a v r) : RepR K E F' H' σ a' v r := by
  cases r with
  | dat d => exact Rep.mono e h
  | slot i => exact h
  | new d => exact absurd rfl (hn d)
theorem rd_of (R : Rel K E F H σ a) (h : RepR K E F H σ a v r) {d : D} (c : con a r = some d) : RdD K F H v d := by
  cases r with
  | dat x => cases c; exact .inl h
  | new x =>
    cases c
    obtain ⟨p, rfl, h1, h2, h3, h5⟩ := h
    exact .inr ⟨p, rfl, h3⟩
  | slot i =>
    simp only [con] at c
    split at c
    · rename_i av e
      cases c
      obtain ⟨u, e1, q⟩ := R.sl i av e
      have hv : σ[i]? = some (some v) := h
      rw [e1] at hv
      cases hv
      obtain ⟨o, c⟩ := av
      cases o with
      | no => exact .inl q
      | own => obtain ⟨p, rfl, _, _, h3⟩ := q; exact .inr ⟨p, rfl, h3⟩
      | lent => obtain ⟨p, rfl, _, _, _, h3⟩ := q; exact .inr ⟨p, rfl, h3⟩
    · cases c
theorem fz_ok (R : Rel K E F H σ a) (h : RepR K E F H σ a v r) {q : D → PSt → Prop} (c : fz r a q) : ∃ F2 a2 d, Same F F2 ∧ Rel K E F2 H σ a2 ∧ Rep K F2 v d ∧ q d a2 := by
  cases r with
  | dat x => exact ⟨F, a, x, Same.refl F, R, h, c⟩
  | new x =>
    obtain ⟨F2, s, R2, h2⟩ := hold_ok R h
    exact ⟨F2, a, x, s, R2, h2, c⟩
  | slot i =>
    have hv : σ[i]? = some (some v) := h
    simp only [fz] at c
    split at c
    · rename_i x e
      obtain ⟨u, e1, q'⟩ := R.sl i _ e
      rw [e1] at hv
      cases hv
      exact ⟨F, a, x, Same.refl F, R, q', c⟩
    · rename_i x e
      obtain ⟨F2, s, R2, h2⟩ := R.giveUp e
      exact ⟨F2, _, x, s, R2, h2 v hv, c⟩
    · exact c.elim
theorem RepRs.on {K : PySem.W.Frag} {E : En} {F F' H H' : Hp} {σ : L2.St} {a a' : PSt} (e : Same F F') : ∀ {vs : List V} {rs : List Res}, RepRs K E F H σ a vs rs → (∀ r ∈ rs, ∀ d, r ≠ .new d) → RepRs K E F' H' σ a' vs rs
  | _, _, .nil, _ => .nil
  | _, _, .cons h t, hn => .cons (res_on e (hn _ List.mem_cons_self) h) (RepRs.on e t fun r hr => hn r (List.mem_cons_of_mem _ hr))
/-- .. several, one after another -/
def fzs : List Res → PSt → (List D → PSt → Prop) → Prop
  | [], a, q => q [] a
  | r :: rs, a, q => fz r a fun d a1 => fzs rs a1 fun ds a2 => q (d :: ds) a2
theorem fzs_ok : ∀ {rs : List Res} {vs : List V} {F H : Hp} {a : PSt} {q : List D → PSt → Prop}, Rel K E F H σ a → RepRs K E F H σ a vs rs → (∀ r ∈ rs, ∀ d, r ≠ .new d) → fzs rs a q →
    ∃ F2 a2 ds, Same F F2 ∧ Rel K E F2 H σ a2 ∧ Reps K F2 vs ds ∧ q ds a2
  | _, _, F, _, a, _, R, .nil, _, c => ⟨F, a, [], Same.refl F, R, .nil, c⟩
  | _, _, F, H, a, q, R, .cons h t, hn, c => by
    obtain ⟨F1, a1, d, s1, R1, h1, c1⟩ := fz_ok R h c
    have t1 := RepRs.on (H' := H) (a' := a1) s1 t fun r hr => hn r (List.mem_cons_of_mem _ hr)
    obtain ⟨F2, a2, ds, s2, R2, h2, c2⟩ := fzs_ok R1 t1 (fun r hr => hn r (List.mem_cons_of_mem _ hr)) c1
    exact ⟨F2, a2, d :: ds, s1.trans s2, R2, .cons (h1.mono s2) h2, c2⟩

/-! what is read off data -/
theorem RdD.int {i : Int} (h : RdD K F H v (.int i)) : v = .int i := by
  rcases h with h | ⟨p, _, o, _, t⟩
  · cases h; rfl
  · cases t
theorem RdD.str {i : Str} (h : RdD K F H v (.str i)) : v = .str i := by
  rcases h with h | ⟨p, _, o, _, t⟩
  · cases h; rfl
  · cases t
theorem RdD.bl {i : Bool} (h : RdD K F H v (.bl i)) : v = .bl i := by
  rcases h with h | ⟨p, _, o, _, t⟩
  · cases h; rfl
  · cases t
theorem RdD.non (h : RdD K F H v .non) : v = .non := by
  rcases h with h | ⟨p, _, o, _, t⟩
  · cases h; rfl
  · cases t
theorem RdD.ty {n : TyN} (h : RdD K F H v (.ty n)) : v = .ty n.s := by
  rcases h with h | ⟨p, _, o, _, t⟩
  · cases h; rfl
  · cases t
theorem RdD.lst {ds : List D} (e : Same F H) (h : RdD K F H v (.lst ds)) : ∃ p vs, v = .ref p ∧ H p = some (.lst vs) ∧ Reps K F vs ds := by
  rcases h with h | ⟨p, rfl, o, h, t⟩
  · cases h with
    | lst h r => exact ⟨_, _, rfl, e _ _ h, r⟩
  · cases t with
    | lst r => exact ⟨_, _, rfl, h, r⟩
theorem RdD.rol {ds : List D} (e : Same F H) (h : RdD K F H v (.rol ds)) : ∃ p vs, v = .ref p ∧ SqL K H p vs ∧ Reps K F vs ds := by
  rcases h with h | ⟨p, rfl, o, h, t⟩
  · cases h with
    | rol h r => exact ⟨_, _, rfl, e.seq h, r⟩
  · cases t
theorem RdD.tup {ds : List D} (e : Same F H) (h : RdD K F H v (.tup ds)) : ∃ p vs, v = .ref p ∧ H p = some (.tup vs) ∧ Reps K F vs ds := by
  rcases h with h | ⟨p, rfl, o, h, t⟩
  · cases h with
    | tup h r => exact ⟨_, _, rfl, e _ _ h, r⟩
  · cases t
theorem RdD.rot {ds : List D} (e : Same F H) (h : RdD K F H v (.rot ds)) : ∃ p vs, v = .ref p ∧ SqT K H p vs ∧ Reps K F vs ds := by
  rcases h with h | ⟨p, rfl, o, h, t⟩
  · cases h with
    | rot h r => exact ⟨_, _, rfl, same_seqT e h, r⟩
  · cases t
theorem RdD.dK {ds : List (Key × D)} (e : Same F H) (h : RdD K F H v (.dK ds)) : ∃ p vs, v = .ref p ∧ H p = some (.dK vs) ∧ RepA K F vs ds := by
  rcases h with h | ⟨p, rfl, o, h, t⟩
  · cases h with
    | dK h r => exact ⟨_, _, rfl, e _ _ h, r⟩
  · cases t with
    | dK r => exact ⟨_, _, rfl, h, r⟩
theorem RdD.dT {ds : List (List Key × D)} (e : Same F H) (h : RdD K F H v (.dT ds)) : ∃ p vs, v = .ref p ∧ H p = some (.dT vs) ∧ RepA K F vs ds := by
  rcases h with h | ⟨p, rfl, o, h, t⟩
  · cases h with
    | dT h r => exact ⟨_, _, rfl, e _ _ h, r⟩
  · cases t with
    | dT r => exact ⟨_, _, rfl, h, r⟩
theorem RdD.ins {x : Str} {ds : List (Str × D)} (e : Same F H) (h : RdD K F H v (.ins x ds)) : ∃ p C dx vs, v = .ref p ∧ NmC K x C ∧ H p = some (.ins C dx vs) ∧ RepA K F vs ds := by
  rcases h with h | ⟨p, rfl, o, h, t⟩
  · cases h with
    | ins n h r => exact ⟨_, _, _, _, rfl, n, e _ _ h, r⟩
  · cases t with
    | ins n r => exact ⟨_, _, _, _, rfl, n, h, r⟩
/-- a list or a tuple, read -/
def seqOf : D → Option (List D)
  | .lst xs => some xs
  | .rol xs => some xs
  | .tup xs => some xs
  | .rot xs => some xs
  | _ => none
theorem RdD.seq {d : D} {ds : List D} (e : Same F H) (h : RdD K F H v d) (s : seqOf d = some ds) : ∃ p vs, v = .ref p ∧ (SqL K H p vs ∨ SqT K H p vs) ∧ Reps K F vs ds := by
  cases d with
  | lst xs => cases s; obtain ⟨p, vs, h1, h2, h3⟩ := h.lst e; exact ⟨p, vs, h1, .inl (.of h2), h3⟩
  | rol xs => cases s; obtain ⟨p, vs, h1, h2, h3⟩ := h.rol e; exact ⟨p, vs, h1, .inl h2, h3⟩
  | tup xs => cases s; obtain ⟨p, vs, h1, h2, h3⟩ := h.tup e; exact ⟨p, vs, h1, .inr (.of h2), h3⟩
  | rot xs => cases s; obtain ⟨p, vs, h1, h2, h3⟩ := h.rot e; exact ⟨p, vs, h1, .inr h2, h3⟩
  | _ => cases s
end

section
variable {X : Cx} {W : L2.St → XK} {ta tb tc : TE} {ua ub : TT} {la : TA} {e a b c : Expr} {pos : Pos} {w w1 w2 w3 : WE}
/-! ### names and constants -/
def wVar (i : Nat) : WE := fun a q _ => onS a[i]? fun _ => q (.slot i) a
def wC (d : D) : WE := fun a q _ => q (.dat d) a
theorem se_var {i : Nat} (h : PE X e (tVar i)) : SE X W e (tVar i) (wVar i) := ⟨h, fun E F H σ a Q q qe R hw l _ => by
  obtain ⟨av, h1, h2⟩ := onS_iff.mp hw
  obtain ⟨v, e1, _⟩ := R.sl i av h1
  exact ⟨v, e1, l v (.slot i) F H a (Same.refl F) R e1 h2⟩⟩
theorem se_c {v : V} {d : D} (h : PE X e (tC v)) (r : ∀ F, Rep X.K F v d) : SE X W e (tC v) (wC d) := ⟨h, fun E F H σ a Q q qe R h2 l _ => l v (.dat d) F H a (Same.refl F) R (r F) h2⟩
theorem se_int {i j pos} : SE X W (.Constant (.int i) j pos) (tC (.int i)) (wC (.int i)) := se_c pe_int fun _ => .int i
theorem se_bl {b j pos} : SE X W (.Constant (.bool b) j pos) (tC (.bl b)) (wC (.bl b)) := se_c pe_bl fun _ => .bl b
theorem se_non {j pos} : SE X W (.Constant .none j pos) (tC .non) (wC .non) := se_c pe_non fun _ => .non
theorem se_str {x j pos} : SE X W (.Constant (.str x) j pos) (tC (.str x)) (wC (.str x)) := se_c pe_str fun _ => .str x
/-- a constant int of a module -/
theorem se_globI {x : Str} {i : Int} {t : Tok} {pos : Pos} (hg : Gl X x) (hm : X.mg x = some (.int i t)) (hd : (x == ("__debug__" : Str)) = false := by decide) : SE X W (.Name x pos) (tC (.int i)) (wC (.int i)) := se_c (v := .int i) (pe_glob hg hm ⟨_, rfl⟩ hd) fun _ => .int i
theorem se_globS {x : Str} {i : Str} {t : Tok} {pos : Pos} (hg : Gl X x) (hm : X.mg x = some (.str i t)) (hd : (x == ("__debug__" : Str)) = false := by decide) : SE X W (.Name x pos) (tC (.str i)) (wC (.str i)) := se_c (v := .str i) (pe_glob hg hm ⟨_, rfl⟩ hd) fun _ => .str i
/-- a built-in class as a value -/
theorem se_ty {x : Str} {n : TyN} {pos : Pos} (hg : Gl X x) (hm : X.mg x = none) (hv : bootBuiltins x = some (.type n.s)) (hn : x ≠ "__name__" := by decide) (hd : (x == ("__debug__" : Str)) = false := by decide) : SE X W (.Name x pos) (tC (.ty n.s)) (wC (.ty n)) :=
  se_c (v := .ty n.s) (pe_bltn hg hm hv rfl hn hd) fun _ => .ty n

/-! ### operators -/
def wBin (op : D → D → (Res → Prop) → Prop) (w1 w2 : WE) : WE := fun a q qe =>
  w1 a (fun r1 a1 => w2 a1 (fun r2 a2 => onO (con a2 (hold r1)) fun x => onO (con a2 r2) fun y => op x y fun r => q r a2) qe) qe
def OpS (K : PySem.W.Frag) (r : R2) (op : D → D → (Res → Prop) → Prop) : Prop :=
  ∀ E F H σ a v1 v2 x y Q k, Rel K E F H σ a → RdD K F H v1 x → RdD K F H v2 y → op x y k → (∀ v r F' H', Same F F' → Rel K E F' H' σ a → RepR K E F' H' σ a v r → k r → Q v H') → r v1 v2 H Q
theorem bin_ok {r : R2} {op : D → D → (Res → Prop) → Prop} (hs : OpS X.K r op) {ta tb : TE} (p1 : ∀ E F H σ a Q q qe, Rel X.K E F H σ a → w1 a q qe → Ln X.K E F σ q Q → Lx X.K E F σ qe (W σ) → ta σ H Q)
    (p2 : ∀ E F H σ a Q q qe, Rel X.K E F H σ a → w2 a q qe → Ln X.K E F σ q Q → Lx X.K E F σ qe (W σ) → tb σ H Q) :
    ∀ E F H σ a Q q qe, Rel X.K E F H σ a → wBin op w1 w2 a q qe → Ln X.K E F σ q Q → Lx X.K E F σ qe (W σ) → tOp r ta tb σ H Q := by
  intro E F H σ a Q q qe R hw l lx
  refine p1 E F H σ a _ _ qe R hw (fun v1 r1 F1 H1 a1 s1 R1 rp1 hw1 => ?_) lx
  obtain ⟨F1', s1', R1', rp1'⟩ := hold_ok R1 rp1
  refine p2 E F1' H1 σ a1 _ _ qe R1' hw1 (fun v2 r2 F2 H2 a2 s2 R2 rp2 hw2 => ?_) (lx.to (s1.trans s1'))
  obtain ⟨x, c1, hw2⟩ := onO_iff.mp hw2
  obtain ⟨y, c2, ho⟩ := onO_iff.mp hw2
  refine hs E F2 H2 σ a2 v1 v2 x y Q _ R2 (rd_of R2 (held_on s2 rp1') c1) (rd_of R2 rp2 c2) ho fun v r F3 H3 s3 R3 rp3 k => ?_
  exact l v r F3 H3 a2 (((s1.trans s1').trans s2).trans s3) R3 rp3 k
theorem se_op {o : Operator} {r : R2} {op : D → D → (Res → Prop) → Prop} (ho : OpR X (binaryOp o) r) (hs : OpS X.K r op) (h1 : SE X W a ta w1) (h2 : SE X W b tb w2) : SE X W (.BinOp a o b pos) (tOp r ta tb) (wBin op w1 w2) := by
  obtain ⟨pa, sa⟩ := id h1
  obtain ⟨pb, sb⟩ := id h2
  exact ⟨pe_op ho pa pb, bin_ok hs sa sb⟩
theorem se_cmp {o : CmpOp} {r : R2} {op : D → D → (Res → Prop) → Prop} (ho : OpR X (compareOp o) r) (hs : OpS X.K r op) (h1 : SE X W a ta w1) (h2 : SE X W b tb w2) (hm : behindInMarks o b = false) : SE X W (.Compare a [o] [b] pos) (tOp r ta tb) (wBin op w1 w2) := by
  obtain ⟨pa, sa⟩ := id h1
  obtain ⟨pb, sb⟩ := id h2
  exact ⟨pe_cmpR ho pa pb hm, bin_ok hs sa sb⟩
/-- a value as a test: it is a bool -/
def wTst (w : WE) : WT := fun a q qe => w a (fun r a1 => onB (con a1 r) fun k => q k a1) qe
theorem tst_ok {ta : TE} (p : ∀ E F H σ a Q q qe, Rel X.K E F H σ a → w a q qe → Ln X.K E F σ q Q → Lx X.K E F σ qe (W σ) → ta σ H Q) :
    ∀ E F H σ a Q q qe, Rel X.K E F H σ a → wTst w a q qe → Lt X.K E F σ q Q → Lx X.K E F σ qe (W σ) → tTest ta σ H Q := by
  intro E F H σ a Q q qe R hw l lx
  refine p E F H σ a _ _ qe R hw (fun v1 r1 F1 H1 a1 s1 R1 rp1 hw1 => ?_) lx
  obtain ⟨k, c, hq⟩ := onB_iff.mp hw1
  exact ⟨k, (rd_of R1 rp1 c).bl, l k F1 H1 a1 s1 R1 hq⟩
theorem st_cmp {o : CmpOp} {r : R2} {op : D → D → (Res → Prop) → Prop} (ho : OpR X (compareOp o) r) (hs : OpS X.K r op) (h1 : SE X W a ta w1) (h2 : SE X W b tb w2) (hm : behindInMarks o b = false) : ST X W (.Compare a [o] [b] pos) (tTest (tOp r ta tb)) (wTst (wBin op w1 w2)) := by
  obtain ⟨pa, sa⟩ := id h1
  obtain ⟨pb, sb⟩ := id h2
  exact ⟨pt_cmpR ho pa pb hm, tst_ok (bin_ok hs sa sb)⟩
theorem st_val (h : SE X W e ta w) (he : ∀ whole, isTrue e X.env whole = (do let v ← whole; standAt e.pos; holding [v] (truthy v)) := by intro _; rfl) : ST X W e (tB ta) (wTst w) := by
  obtain ⟨pa, sa⟩ := h
  exact ⟨pt_val pa he, tst_ok sa⟩
def wAnd (w1 w2 : WT) : WT := fun a q qe => w1 a (fun b a1 => br b (w2 a1 q qe) (q false a1)) qe
def wOr (w1 w2 : WT) : WT := fun a q qe => w1 a (fun b a1 => br b (q true a1) (w2 a1 q qe)) qe
def wNot (w1 : WT) : WT := fun a q qe => w1 a (fun b a1 => q (!b) a1) qe
theorem sw_and1 {w : WT} (h : ST X W a ua w) : SW X W (.BoolOp .And [a] pos) ua w := let ⟨p, s⟩ := h; ⟨pw_and1 p, s⟩
theorem sw_or1 {w : WT} (h : ST X W a ua w) : SW X W (.BoolOp .Or [a] pos) ua w := let ⟨p, s⟩ := h; ⟨pw_or1 p, s⟩
theorem sw_and {w1 w2 : WT} {rest : List Expr} (h1 : ST X W a ua w1) (h2 : SW X W (.BoolOp .And (b :: rest) pos) ub w2) : SW X W (.BoolOp .And (a :: b :: rest) pos) (tAnd ua ub) (wAnd w1 w2) := by
  obtain ⟨p1, s1⟩ := h1
  obtain ⟨p2, s2⟩ := h2
  refine ⟨pw_and p1 p2, fun E F H σ a Q q qe R hw l lx => s1 E F H σ a _ _ qe R hw (fun k F1 H1 a1 e1 R1 hq => ?_) lx⟩
  cases k with
  | true => exact s2 E F1 H1 σ a1 Q q qe R1 (br_tt hq rfl) (l.to e1) (lx.to e1)
  | false => exact l false F1 H1 a1 e1 R1 (br_ff hq rfl)
theorem sw_or {w1 w2 : WT} {rest : List Expr} (h1 : ST X W a ua w1) (h2 : SW X W (.BoolOp .Or (b :: rest) pos) ub w2) : SW X W (.BoolOp .Or (a :: b :: rest) pos) (tOr ua ub) (wOr w1 w2) := by
  obtain ⟨p1, s1⟩ := h1
  obtain ⟨p2, s2⟩ := h2
  refine ⟨pw_or p1 p2, fun E F H σ a Q q qe R hw l lx => s1 E F H σ a _ _ qe R hw (fun k F1 H1 a1 e1 R1 hq => ?_) lx⟩
  cases k with
  | false => exact s2 E F1 H1 σ a1 Q q qe R1 (br_ff hq rfl) (l.to e1) (lx.to e1)
  | true => exact l true F1 H1 a1 e1 R1 (br_tt hq rfl)
theorem SW.st {w : WT} (h : SW X W e ua w) : ST X W e ua w := let ⟨p, s⟩ := h; ⟨p.pt, s⟩
theorem st_not {w : WT} (h : ST X W a ua w) : ST X W (.UnaryOp .Not a pos) (tNot ua) (wNot w) := by
  obtain ⟨p1, s1⟩ := h
  exact ⟨pt_not p1, fun E F H σ a Q q qe R hw l lx => s1 E F H σ a _ _ qe R hw (fun k F1 H1 a1 e1 R1 hq => l (!k) F1 H1 a1 e1 R1 hq) lx⟩
/-- and, or as values, all but the last bools -/
def wAndV (w1 w2 : WE) : WE := fun a q qe => w1 a (fun r a1 => onB (con a1 r) fun k => br k (w2 a1 q qe) (q (.dat (.bl false)) a1)) qe
def wOrV (w1 w2 : WE) : WE := fun a q qe => w1 a (fun r a1 => onB (con a1 r) fun k => br k (q (.dat (.bl true)) a1) (w2 a1 q qe)) qe
def wNotV (w1 : WE) : WE := fun a q qe => w1 a (fun r a1 => onB (con a1 r) fun k => q (.dat (.bl (!k))) a1) qe
theorem se_one {op : BoolOp} (h : SE X W a ta w) : SE X W (.BoolOp op [a] pos) ta w := let ⟨p, s⟩ := h; ⟨pe_one p, s⟩
theorem se_and {rest : List Expr} (h1 : SE X W a ta w1) (h2 : SE X W (.BoolOp .And (b :: rest) pos) tb w2) : SE X W (.BoolOp .And (a :: b :: rest) pos) (tAndV ta tb) (wAndV w1 w2) := by
  obtain ⟨p1, s1⟩ := h1
  obtain ⟨p2, s2⟩ := h2
  refine ⟨pe_and p1 p2, fun E F H σ a Q q qe R hw l lx => s1 E F H σ a _ _ qe R hw (fun v1 r1 F1 H1 a1 e1 R1 rp hq => ?_) lx⟩
  obtain ⟨k, c, hb⟩ := onB_iff.mp hq
  refine ⟨k, (rd_of R1 rp c).bl, ?_⟩
  cases k with
  | true => exact s2 E F1 H1 σ a1 Q q qe R1 (br_tt hb rfl) (l.to e1) (lx.to e1)
  | false => exact l (.bl false) (.dat (.bl false)) F1 H1 a1 e1 R1 (.bl false) (br_ff hb rfl)
theorem se_or {rest : List Expr} (h1 : SE X W a ta w1) (h2 : SE X W (.BoolOp .Or (b :: rest) pos) tb w2) : SE X W (.BoolOp .Or (a :: b :: rest) pos) (tOrV ta tb) (wOrV w1 w2) := by
  obtain ⟨p1, s1⟩ := h1
  obtain ⟨p2, s2⟩ := h2
  refine ⟨pe_or p1 p2, fun E F H σ a Q q qe R hw l lx => s1 E F H σ a _ _ qe R hw (fun v1 r1 F1 H1 a1 e1 R1 rp hq => ?_) lx⟩
  obtain ⟨k, c, hb⟩ := onB_iff.mp hq
  refine ⟨k, (rd_of R1 rp c).bl, ?_⟩
  cases k with
  | false => exact s2 E F1 H1 σ a1 Q q qe R1 (br_ff hb rfl) (l.to e1) (lx.to e1)
  | true => exact l (.bl true) (.dat (.bl true)) F1 H1 a1 e1 R1 (.bl true) (br_tt hb rfl)
theorem se_not (h1 : SE X W a ta w1) : SE X W (.UnaryOp .Not a pos) (tNotV ta) (wNotV w1) := by
  obtain ⟨p1, s1⟩ := h1
  refine ⟨pe_not p1, fun E F H σ a Q q qe R hw l lx => s1 E F H σ a _ _ qe R hw (fun v1 r1 F1 H1 a1 e1 R1 rp hq => ?_) lx⟩
  obtain ⟨k, c, q1⟩ := onB_iff.mp hq
  exact ⟨k, (rd_of R1 rp c).bl, l (.bl (!k)) (.dat (.bl (!k))) F1 H1 a1 e1 R1 (.bl _) q1⟩
def wIfE (wt : WT) (w1 w2 : WE) : WE := fun a q qe => wt a (fun b a1 => br b (w1 a1 q qe) (w2 a1 q qe)) qe
theorem se_ifExp {wt : WT} (h : ST X W c ua wt) (h1 : SE X W a ta w1) (h2 : SE X W b tb w2) : SE X W (.IfExp c a b pos) (tIf ua ta tb) (wIfE wt w1 w2) := by
  obtain ⟨p, s⟩ := h
  obtain ⟨p1, s1⟩ := h1
  obtain ⟨p2, s2⟩ := h2
  refine ⟨pe_ifExp p p1 p2, fun E F H σ a Q q qe R hw l lx => s E F H σ a _ _ qe R hw (fun k F1 H1 a1 e1 R1 hq => ?_) lx⟩
  cases k with
  | true => exact s1 E F1 H1 σ a1 Q q qe R1 (br_tt hq rfl) (l.to e1) (lx.to e1)
  | false => exact s2 E F1 H1 σ a1 Q q qe R1 (br_ff hq rfl) (l.to e1) (lx.to e1)
def wUn (op : D → (Res → Prop) → Prop) (w1 : WE) : WE := fun a q qe => w1 a (fun r a1 => onO (con a1 r) fun x => op x fun r => q r a1) qe
def dNeg (x : D) (k : Res → Prop) : Prop := match x with
  | .int i => k (.dat (.int (-i)))
  | _ => False
theorem se_neg (h1 : SE X W a ta w1) : SE X W (.UnaryOp .USub a pos) (tUn (rU fun i => .int (-i)) ta) (wUn dNeg w1) := by
  obtain ⟨p1, s1⟩ := h1
  refine ⟨pe_un un_neg p1, fun E F H σ a Q q qe R hw l lx => s1 E F H σ a _ _ qe R hw (fun v1 r1 F1 H1 a1 e1 R1 rp hq => ?_) lx⟩
  obtain ⟨x, c, q1⟩ := onO_iff.mp hq
  cases x with
  | int i => exact ⟨i, (rd_of R1 rp c).int, l (.int (-i)) (.dat (.int (-i))) F1 H1 a1 e1 R1 (.int _) q1⟩
  | _ => exact False.elim q1

/-! ### arguments, displays -/
def waNil : WA := fun a q _ => q [] a
def waCons (w : WE) (ws : WA) : WA := fun a q qe => w a (fun r a1 => ws a1 (fun rs a2 => q (hold r :: rs) a2) qe) qe
theorem sa_nil : SA X W [] tNil waNil := ⟨pa_nil, fun E F H σ a Q q qe R hw l lx => l [] [] F H a (Same.refl F) R .nil (fun r hr => by cases hr) hw⟩
theorem sa_cons {es : List Expr} {ws : WA} (h1 : SE X W e ta w) (h2 : SA X W es la ws) (hs : starEach (e :: es) X.env = (false, eval e X.env) :: starEach es X.env := by rfl) : SA X W (e :: es) (tCons ta la) (waCons w ws) := by
  obtain ⟨p1, s1⟩ := h1
  obtain ⟨p2, s2⟩ := h2
  refine ⟨pa_cons p1 p2 hs, fun E F H σ a Q q qe R hw l lx => s1 E F H σ a _ _ qe R hw (fun v1 r1 F1 H1 a1 e1 R1 rp hq => ?_) lx⟩
  obtain ⟨F1', e1', R1', rp'⟩ := hold_ok R1 rp
  refine s2 E F1' H1 σ a1 _ _ qe R1' hq (fun vs rs F2 H2 a2 e2 R2 rps hn hq2 => ?_) (lx.to (e1.trans e1'))
  refine l (v1 :: vs) (hold r1 :: rs) F2 H2 a2 ((e1.trans e1').trans e2) R2 (.cons (held_on e2 rp') rps) (fun r hr d => ?_) hq2
  rcases List.mem_cons.mp hr with rfl | hr
  · exact hold_new
  · exact hn r hr d
def wLst (ws : WA) : WE := fun a q qe => ws a (fun rs a1 => fzs rs a1 fun ds a2 => ds.length ≤ sizeLine ∧ q (.new (.lst ds)) a2) qe
def wTup (ws : WA) : WE := fun a q qe => ws a (fun rs a1 => fzs rs a1 fun ds a2 => ds.length ≤ sizeLine ∧ q (.dat (.tup ds)) a2) qe
theorem se_lst {es : List Expr} {ws : WA} (h : SA X W es la ws) : SE X W (.List es pos) (tLst la) (wLst ws) := by
  obtain ⟨p1, s1⟩ := h
  refine ⟨pe_lst p1, fun E F H σ a Q q qe R hw l lx => s1 E F H σ a _ _ qe R hw (fun vs rs F1 H1 a1 e1 R1 rps hn hq => ?_) lx⟩
  obtain ⟨F2, a2, ds, e2, R2, rp, hz, hq2⟩ := fzs_ok R1 rps hn hq
  refine ⟨by rw [rp.length]; exact hz, fun p hp => ?_⟩
  obtain ⟨f1, f2, f3⟩ := R2.fresh hp
  exact l (.ref p) (.new (.lst ds)) F2 _ a2 (e1.trans e2) (R2.lay _ hp) ⟨p, rfl, f1, f2, ⟨_, upd_same, .lst rp⟩, f3⟩ hq2
theorem Rel.layF {K : PySem.W.Frag} {E : En} {F H : Hp} {σ : L2.St} {a : PSt} (R : Rel K E F H σ a) {p : Addr} (o : HO) (h : H p = none) : Same F (upd F p o) ∧ Rel K E (upd F p o) (upd H p o) σ a := by
  obtain ⟨f1, f2, f3⟩ := R.fresh h
  exact (R.lay o h).freeze upd_same f1 f2 f3
theorem se_tup {es : List Expr} {ws : WA} {x1} (h : SA X W es la ws) : SE X W (.Tuple es x1 pos) (tTup la) (wTup ws) := by
  obtain ⟨p1, s1⟩ := h
  refine ⟨pe_tup p1, fun E F H σ a Q q qe R hw l lx => s1 E F H σ a _ _ qe R hw (fun vs rs F1 H1 a1 e1 R1 rps hn hq => ?_) lx⟩
  obtain ⟨F2, a2, ds, e2, R2, rp, hz, hq2⟩ := fzs_ok R1 rps hn hq
  refine ⟨by rw [rp.length]; exact hz, fun p hp => ?_⟩
  obtain ⟨e3, R3⟩ := R2.layF (.tup vs) hp
  exact l (.ref p) (.dat (.tup ds)) _ _ a2 ((e1.trans e2).trans e3) R3 (.tup upd_same (rp.mono e3)) hq2
end
end DS

namespace DS
open PySem PySem.Spec PyProof.Rows L2

section
variable {K : PySem.W.Frag} {E : En} {F F' H H' : Hp} {σ : L2.St} {a : PSt} {v : V} {r : Res}
/-- a new list, as a result -/
theorem new_lst {Q : VK} {k : Res → Prop} {vs : List V} {ds : List D} (R : Rel K E F H σ a) (rp : Reps K F vs ds) (l : ∀ v r F' H', Same F F' → Rel K E F' H' σ a → RepR K E F' H' σ a v r → k r → Q v H') (hk : k (.new (.lst ds))) :
    ∀ p, H p = none → Q (.ref p) (upd H p (.lst vs)) := fun p hp => by
  obtain ⟨f1, f2, f3⟩ := R.fresh hp
  exact l (.ref p) (.new (.lst ds)) F _ (Same.refl F) (R.lay _ hp) ⟨p, rfl, f1, f2, ⟨_, upd_same, .lst rp⟩, f3⟩ hk
theorem new_tup {Q : VK} {k : Res → Prop} {vs : List V} {ds : List D} (R : Rel K E F H σ a) (rp : Reps K F vs ds) (l : ∀ v r F' H', Same F F' → Rel K E F' H' σ a → RepR K E F' H' σ a v r → k r → Q v H') (hk : k (.dat (.tup ds))) :
    ∀ p, H p = none → Q (.ref p) (upd H p (.tup vs)) := fun p hp => by
  obtain ⟨e, R'⟩ := R.layF (.tup vs) hp
  exact l (.ref p) (.dat (.tup ds)) _ _ e R' (Rep.tup upd_same (rp.mono e)) hk
end

/-! ### int operators -/
def r2or (r r' : R2) : R2 := fun x y H Q => r x y H Q ∨ r' x y H Q
theorem OpS.int {K : PySem.W.Frag} {C : Int → Int → Prop} {g : Int → Int → Int} : OpS K (rI C fun i j => .int (g i j)) (fun x y k => match x, y with | .int i, .int j => C i j ∧ k (.dat (.int (g i j))) | _, _ => False) := by
  intro E F H σ a v1 v2 x y Q k R h1 h2 ho l
  split at ho
  · exact ⟨_, _, h1.int, h2.int, ho.1, l _ (.dat _) F H (Same.refl F) R (Rep.int _) ho.2⟩
  · exact ho.elim
theorem OpS.int0 {K : PySem.W.Frag} {g : Int → Int → Int} : OpS K (rI0 fun i j => .int (g i j)) (fun x y k => match x, y with | .int i, .int j => k (.dat (.int (g i j))) | _, _ => False) := by
  intro E F H σ a v1 v2 x y Q k R h1 h2 ho l
  split at ho
  · exact ⟨_, _, h1.int, h2.int, l _ (.dat _) F H (Same.refl F) R (Rep.int _) ho⟩
  · exact ho.elim
theorem OpS.bl0 {K : PySem.W.Frag} {g : Int → Int → Bool} : OpS K (rI0 fun i j => .bl (g i j)) (fun x y k => match x, y with | .int i, .int j => k (.dat (.bl (g i j))) | _, _ => False) := by
  intro E F H σ a v1 v2 x y Q k R h1 h2 ho l
  split at ho
  · exact ⟨_, _, h1.int, h2.int, l _ (.dat _) F H (Same.refl F) R (Rep.bl _) ho⟩
  · exact ho.elim
abbrev DOp := D → D → (Res → Prop) → Prop
def dSub : DOp := fun x y k => match x, y with | .int i, .int j => k (.dat (.int (i - j))) | _, _ => False
def dFdiv : DOp := fun x y k => match x, y with | .int i, .int j => CDiv i j ∧ k (.dat (.int (i / j))) | _, _ => False
def dMod : DOp := fun x y k => match x, y with | .int i, .int j => 0 < j ∧ k (.dat (.int (i % j))) | _, _ => False
def dPow : DOp := fun x y k => match x, y with | .int i, .int j => CPow i j ∧ k (.dat (.int (i ^ j.toNat))) | _, _ => False
def dLt : DOp := fun x y k => match x, y with | .int i, .int j => k (.dat (.bl (decide (i < j)))) | _, _ => False
def dLe : DOp := fun x y k => match x, y with | .int i, .int j => k (.dat (.bl (decide (i ≤ j)))) | _, _ => False
def dGt : DOp := fun x y k => match x, y with | .int i, .int j => k (.dat (.bl (decide (j < i)))) | _, _ => False
def dGe : DOp := fun x y k => match x, y with | .int i, .int j => k (.dat (.bl (decide (j ≤ i)))) | _, _ => False
section
variable {K : PySem.W.Frag} {X : Cx}
theorem dSub_ok : OpS K (rI0 fun i j => .int (i - j)) dSub := OpS.int0
theorem dFdiv_ok : OpS K (rI CDiv fun i j => .int (i / j)) dFdiv := OpS.int
theorem dMod_ok : OpS K (rI (fun _ j => 0 < j) fun i j => .int (i % j)) dMod := OpS.int
theorem dPow_ok : OpS K (rI CPow fun i j => .int (i ^ j.toNat)) dPow := OpS.int
theorem dLt_ok : OpS K (rI0 fun i j => .bl (decide (i < j))) dLt := OpS.bl0
theorem dLe_ok : OpS K (rI0 fun i j => .bl (decide (i ≤ j))) dLe := OpS.bl0
theorem dGt_ok : OpS K (rI0 fun i j => .bl (decide (j < i))) dGt := OpS.bl0
theorem dGe_ok : OpS K (rI0 fun i j => .bl (decide (j ≤ i))) dGe := OpS.bl0

/-! ### + and * -/
def rAddS : R2 := fun x y H Q => ∃ i j, x = .str i ∧ y = .str j ∧ i.length + j.length ≤ sizeLine ∧ Q (.str (i ++ j)) H
def rAddA : R2 := fun x y H Q => rI0 (fun i j => .int (i + j)) x y H Q ∨ rAddS x y H Q ∨ rCat x y H Q
theorem op_addA : OpR X (binaryOp .Add) rAddA := op_add.or (op_add_str.or op_cat)
def dAdd : DOp := fun x y k => match x, y with
  | .int i, .int j => k (.dat (.int (i + j)))
  | .str i, .str j => i.length + j.length ≤ sizeLine ∧ k (.dat (.str (i ++ j)))
  | .lst xs, .lst ys => xs.length + ys.length ≤ sizeLine ∧ k (.new (.lst (xs ++ ys)))
  | _, _ => False
theorem dAdd_ok : OpS K rAddA dAdd := by
  intro E F H σ a v1 v2 x y Q k R h1 h2 ho l
  unfold dAdd at ho
  split at ho
  · exact .inl ⟨_, _, h1.int, h2.int, l _ (.dat _) F H (Same.refl F) R (Rep.int _) ho⟩
  · exact .inr (.inl ⟨_, _, h1.str, h2.str, ho.1, l _ (.dat _) F H (Same.refl F) R (Rep.str _) ho.2⟩)
  · obtain ⟨p, vs, rfl, hp, rp⟩ := h1.lst R.ext
    obtain ⟨q, ws, rfl, hq, rq⟩ := h2.lst R.ext
    exact .inr (.inr ⟨p, q, vs, ws, rfl, rfl, hp, hq, by rw [rp.length, rq.length]; exact ho.1, new_lst R (rp.append rq) l ho.2⟩)
  · exact ho.elim
def rMulA : R2 := fun x y H Q => rI CMul (fun i j => .int (i * j)) x y H Q ∨ rRep x y H Q
theorem op_mulA : OpR X (binaryOp .Mult) rMulA := op_mul.or op_rep
def dMul : DOp := fun x y k => match x, y with
  | .int i, .int j => CMul i j ∧ k (.dat (.int (i * j)))
  | .lst xs, .int j => (-(2 ^ 63) ≤ j ∧ j < 2 ^ 63 ∧ xs.length * j.toNat ≤ sizeLine) ∧ k (.new (.lst (List.replicate j.toNat xs).flatten))
  | _, _ => False
theorem dMul_ok : OpS K rMulA dMul := by
  intro E F H σ a v1 v2 x y Q k R h1 h2 ho l
  unfold dMul at ho
  split at ho
  · exact .inl ⟨_, _, h1.int, h2.int, ho.1, l _ (.dat _) F H (Same.refl F) R (Rep.int _) ho.2⟩
  · obtain ⟨p, vs, rfl, hp, rp⟩ := h1.lst R.ext
    exact .inr ⟨p, _, vs, rfl, h2.int, hp, ho.1.1, ho.1.2.1, by rw [rp.length]; exact ho.1.2.2, new_lst R (rp.rep _) l ho.2⟩
  · exact ho.elim

/-! ### == -/
mutual
def pyd : D → Option PyData
  | .non => some .none
  | .bl b => some (.bool b)
  | .int i => some (.int i)
  | .str x => some (.str x)
  | .lst xs => (pyds xs).map .list
  | .rol xs => (pyds xs).map .list
  | .tup xs => (pyds xs).map .tuple
  | .rot xs => (pyds xs).map .tuple
  | .dK _ => none
  | .dT _ => none
  | .lK _ => none
  | .lT _ => none
  | .ins _ _ => none
  | .exc _ _ _ _ => none
  | .ty _ => none
  | .adr _ => none
def pyds : List D → Option (List PyData)
  | [] => some []
  | d :: ds => match pyd d, pyds ds with
    | some a, some b => some (a :: b)
    | _, _ => none
end
theorem pyds_cons {d : D} {ds : List D} {ps : List PyData} (h : pyds (d :: ds) = some ps) : ∃ p qs, ps = p :: qs ∧ pyd d = some p ∧ pyds ds = some qs := by
  unfold pyds at h
  split at h
  · cases h; exact ⟨_, _, rfl, by assumption, by assumption⟩
  · cases h
section
variable {F H : Hp}
mutual
theorem dp_of (e : Same F H) : ∀ (d : D) (v : V) (p : PyData), Rep K F v d → pyd d = some p → Dp K H v p
  | .non, _, _, h, q => by cases h; cases q; exact .non
  | .bl _, _, _, h, q => by cases h; cases q; exact .bl _
  | .int _, _, _, h, q => by cases h; cases q; exact .int _
  | .str _, _, _, h, q => by cases h; cases q; exact .str _
  | .lst xs, _, _, h, q => by
    cases h with
    | lst hf r =>
      rw [pyd] at q
      obtain ⟨ps, e1, rfl⟩ := Option.map_eq_some_iff.mp q
      exact .lst (SqL.of (e _ _ hf)) (dps_of e xs _ ps r e1)
  | .rol xs, _, _, h, q => by
    cases h with
    | rol hf r =>
      rw [pyd] at q
      obtain ⟨ps, e1, rfl⟩ := Option.map_eq_some_iff.mp q
      exact .lst (e.seq hf) (dps_of e xs _ ps r e1)
  | .tup xs, _, _, h, q => by
    cases h with
    | tup hf r =>
      rw [pyd] at q
      obtain ⟨ps, e1, rfl⟩ := Option.map_eq_some_iff.mp q
      exact .tup (SqT.of (e _ _ hf)) (dps_of e xs _ ps r e1)
  | .rot xs, _, _, h, q => by
    cases h with
    | rot hf r =>
      rw [pyd] at q
      obtain ⟨ps, e1, rfl⟩ := Option.map_eq_some_iff.mp q
      exact .tup (same_seqT e hf) (dps_of e xs _ ps r e1)
  | .dK _, _, _, _, q => by cases q
  | .dT _, _, _, _, q => by cases q
  | .lK _, _, _, _, q => by cases q
  | .lT _, _, _, _, q => by cases q
  | .ins _ _, _, _, _, q => by cases q
  | .exc _ _ _ _, _, _, _, q => by cases q
  | .ty _, _, _, _, q => by cases q
  | .adr _, _, _, _, q => by cases q
theorem dps_of (e : Same F H) : ∀ (ds : List D) (vs : List V) (ps : List PyData), Reps K F vs ds → pyds ds = some ps → DpAll K H vs ps
  | [], _, _, h, q => by cases h; cases q; exact .nil
  | d :: ds, _, ps, h, q => by
    cases h with
    | cons h1 h2 =>
      obtain ⟨p, qs, rfl, e1, e2⟩ := pyds_cons q
      exact .cons (dp_of e d _ p h1 e1) (dps_of e ds _ qs h2 e2)
end
theorem dp_rd (e : Same F H) {d : D} {v : V} {p : PyData} (h : RdD K F H v d) (q : pyd d = some p) : Dp K H v p := by
  rcases h with h | ⟨b, rfl, o, ho, t⟩
  · exact dp_of e d v p h q
  · cases t with
    | lst r =>
      rw [pyd] at q
      obtain ⟨ps, e1, rfl⟩ := Option.map_eq_some_iff.mp q
      exact .lst (SqL.of ho) (dps_of e _ _ ps r e1)
    | _ => cases q
end
/-- a scalar -/
def sca : D → Option V
  | .non => some .non
  | .bl b => some (.bl b)
  | .int i => some (.int i)
  | .str x => some (.str x)
  | _ => none
theorem RdD.sca {F H : Hp} {d : D} {v u : V} (h : RdD K F H v d) (s : sca d = some u) : v = u := by
  cases d with
  | non => cases s; exact h.non
  | bl b => cases s; exact h.bl
  | int b => cases s; exact h.int
  | str b => cases s; exact h.str
  | _ => cases s
@[irreducible] def eqH (x y : D) (k : Bool → Prop) : Prop := (∃ u v, sca x = some u ∧ sca y = some v ∧ scal u v = true ∧ k (decide (u = v))) ∨
      ∃ p q, pyd x = some p ∧ pyd y = some q ∧ SeqAt.shaped p = true ∧ SeqAt.shaped q = true ∧ k (PyData.eqv p q)
def dEqB (x y : D) (k : Bool → Prop) : Prop := match x, y with
  | .int i, .int j => k (decide (i = j))
  | .str i, .str j => k (decide (i = j))
  | .bl i, .bl j => k (decide (i = j))
  | x, y => eqH x y k
def rEqA (K : PySem.W.Frag) : R2 := fun x y H Q => rEq x y H Q ∨ rEqD K x y H Q
def rNeA (K : PySem.W.Frag) : R2 := fun x y H Q => rNe x y H Q ∨ rNeD K x y H Q
theorem op_eqA (hu : X.A.units + 64 < cLine) : OpR X (compareOp .Eq) (rEqA X.K) := op_eq.or (op_eqD hu)
theorem op_neA (hu : X.A.units + 64 < cLine) : OpR X (compareOp .NotEq) (rNeA X.K) := op_ne.or (op_neD hu)
def dEq : DOp := fun x y k => dEqB x y fun b => k (.dat (.bl b))
def dNe : DOp := fun x y k => dEqB x y fun b => k (.dat (.bl (!b)))
theorem decV_int {i j : Int} : decide (V.int i = V.int j) = decide (i = j) := by simp
theorem decV_str {i j : Str} : decide (V.str i = V.str j) = decide (i = j) := by simp
theorem decV_bl {i j : Bool} : decide (V.bl i = V.bl j) = decide (i = j) := by simp
theorem dEqB_ok {E : En} {F H : Hp} {σ : L2.St} {a : PSt} {v1 v2 : V} {x y : D} {k : Bool → Prop} (R : Rel K E F H σ a) (h1 : RdD K F H v1 x) (h2 : RdD K F H v2 y) (ho : dEqB x y k) :
    (scal v1 v2 = true ∧ k (decide (v1 = v2))) ∨ ∃ d e, Dp K H v1 d ∧ Dp K H v2 e ∧ SeqAt.shaped d = true ∧ SeqAt.shaped e = true ∧ k (PyData.eqv d e) := by
  unfold dEqB at ho
  split at ho
  · obtain rfl := h1.int; obtain rfl := h2.int
    exact .inl ⟨rfl, by rw [decV_int]; exact ho⟩
  · obtain rfl := h1.str; obtain rfl := h2.str
    exact .inl ⟨rfl, by rw [decV_str]; exact ho⟩
  · obtain rfl := h1.bl; obtain rfl := h2.bl
    exact .inl ⟨rfl, by rw [decV_bl]; exact ho⟩
  · unfold eqH at ho
    rcases ho with ⟨u, v, e1, e2, s, hk⟩ | ⟨p, q, e1, e2, s1, s2, hk⟩
    · obtain rfl := h1.sca e1
      obtain rfl := h2.sca e2
      exact .inl ⟨s, hk⟩
    · exact .inr ⟨p, q, dp_rd R.ext h1 e1, dp_rd R.ext h2 e2, s1, s2, hk⟩
theorem dEq_ok : OpS K (rEqA K) dEq := by
  intro E F H σ a v1 v2 x y Q k R h1 h2 ho l
  have hl : ∀ b, k (.dat (.bl b)) → Q (.bl b) H := fun b hb => l _ (.dat _) F H (Same.refl F) R (Rep.bl _) hb
  rcases dEqB_ok R h1 h2 ho with ⟨s, hk⟩ | ⟨d, e, p1, p2, s1, s2, hk⟩
  · exact .inl ⟨s, hl _ hk⟩
  · exact .inr ⟨d, e, p1, p2, s1, s2, hl _ hk⟩
theorem dNe_ok : OpS K (rNeA K) dNe := by
  intro E F H σ a v1 v2 x y Q k R h1 h2 ho l
  have hl : ∀ b, k (.dat (.bl b)) → Q (.bl b) H := fun b hb => l _ (.dat _) F H (Same.refl F) R (Rep.bl _) hb
  rcases dEqB_ok R h1 h2 ho with ⟨s, hk⟩ | ⟨d, e, p1, p2, s1, s2, hk⟩
  · exact .inl ⟨s, hl _ hk⟩
  · exact .inr ⟨d, e, p1, p2, s1, s2, hl _ hk⟩
/-! ### is None -/
def isNon : D → Bool
  | .non => true
  | _ => false
theorem isNon_ok {F H : Hp} {v : V} {d : D} (h : RdD K F H v d) : decide (v = .non) = isNon d := by
  rcases h with h | ⟨p, rfl, o, ho, t⟩
  · cases h <;> rfl
  · cases t <;> rfl
def dIs : DOp := fun x y k => match y with | .non => k (.dat (.bl (isNon x))) | _ => False
def dIsNot : DOp := fun x y k => match y with | .non => k (.dat (.bl (!isNon x))) | _ => False
theorem dIs_ok : OpS K (fun x y H Q => y = .non ∧ Q (.bl (decide (x = .non))) H) dIs := by
  intro E F H σ a v1 v2 x y Q k R h1 h2 ho l
  unfold dIs at ho
  split at ho
  · refine ⟨h2.non, ?_⟩
    rw [isNon_ok h1]
    exact l _ (.dat _) F H (Same.refl F) R (Rep.bl _) ho
  · exact ho.elim
theorem dIsNot_ok : OpS K (fun x y H Q => y = .non ∧ Q (.bl (!decide (x = .non))) H) dIsNot := by
  intro E F H σ a v1 v2 x y Q k R h1 h2 ho l
  unfold dIsNot at ho
  split at ho
  · refine ⟨h2.non, ?_⟩
    rw [isNon_ok h1]
    exact l _ (.dat _) F H (Same.refl F) R (Rep.bl _) ho
  · exact ho.elim
/-! ### in a list, a tuple of flat items; a sign in a text -/
def flatD : D → Bool
  | .non => true
  | .bl _ => true
  | .int _ => true
  | .str _ => true
  | _ => false
def scEq : D → D → Bool
  | .non, .non => true
  | .bl a, .bl b => a == b
  | .bl a, .int b => (if a then 1 else 0) == b
  | .int a, .bl b => a == (if b then 1 else 0)
  | .int a, .int b => a == b
  | .str a, .str b => a == b
  | _, _ => false
theorem flat_rep {F H : Hp} {v : V} {d : D} (h : RdD K F H v d) (f : flatD d = true) : flatV v = true := by
  cases d with
  | non => rw [h.non]; rfl
  | bl _ => rw [h.bl]; rfl
  | int _ => rw [h.int]; rfl
  | str _ => rw [h.str]; rfl
  | _ => cases f
theorem scEq_rep {F F' H H' : Hp} {v u : V} {d e : D} (h : RdD K F H v d) (h' : RdD K F' H' u e) (f : flatD d = true) (f' : flatD e = true) : eqV v u = scEq d e := by
  cases d <;> first
    | exact absurd (show false = true from f) Bool.false_ne_true
    | (cases e <;> first
        | exact absurd (show false = true from f') Bool.false_ne_true
        | (first | obtain rfl := h.int | obtain rfl := h.str | obtain rfl := h.bl | obtain rfl := h.non
           first | obtain rfl := h'.int | obtain rfl := h'.str | obtain rfl := h'.bl | obtain rfl := h'.non
           rfl))
theorem any_rep {F F' H' : Hp} {u : V} {e : D} (h' : RdD K F' H' u e) (f' : flatD e = true) : ∀ {vs : List V} {ds : List D}, Reps K F vs ds → ds.all flatD = true → vs.all flatV = true ∧ inV u vs = ds.any fun d => scEq d e
  | _, _, .nil, _ => ⟨rfl, rfl⟩
  | _, _, .cons r t, f => by
    rw [List.all_cons, Bool.and_eq_true] at f
    obtain ⟨h1, h2⟩ := any_rep h' f' t f.2
    refine ⟨by rw [List.all_cons, h1, flat_rep (.inl r : RdD K F F _ _) f.1]; rfl, ?_⟩
    unfold inV at *
    rw [List.any_cons, List.any_cons, h2, scEq_rep (.inl r : RdD K F F _ _) h' f.1 f']
def dInB (x y : D) (k : Bool → Prop) : Prop := match y with
  | .str z => match x with | .str i => ∃ c, i = ⟨#[c]⟩ ∧ k (decide (c ∈ z.cps.toList)) | _ => False
  | y => ∃ ys, seqOf y = some ys ∧ flatD x = true ∧ ys.all flatD = true ∧ k (ys.any fun d => scEq d x)
def rSign (neg : Bool) : R2 := fun x y H Q => ∃ (c : Nat) (z : Str), x = .str ⟨#[c]⟩ ∧ y = .str z ∧ Q (.bl (if neg then !decide (c ∈ z.cps.toList) else decide (c ∈ z.cps.toList))) H
def rInA (K : PySem.W.Frag) (neg : Bool) : R2 := fun x y H Q => rSign neg x y H Q ∨ rIn K neg x y H Q
theorem op_inA : OpR X (compareOp .In) (rInA X.K false) := OpR.or op_in_sign op_in_seq
theorem op_notInA : OpR X (compareOp .NotIn) (rInA X.K true) := OpR.or op_notIn_sign op_notIn_seq
def dIn : DOp := fun x y k => dInB x y fun b => k (.dat (.bl b))
def dNotIn : DOp := fun x y k => dInB x y fun b => k (.dat (.bl (!b)))
theorem dInB_ok {neg : Bool} {E : En} {F H : Hp} {σ : L2.St} {a : PSt} {v1 v2 : V} {x y : D} {k : Bool → Prop} {Q : VK} (R : Rel K E F H σ a) (h1 : RdD K F H v1 x) (h2 : RdD K F H v2 y) (ho : dInB x y k)
    (l : ∀ b, k b → Q (.bl (if neg then !b else b)) H) : rInA K neg v1 v2 H Q := by
  unfold dInB at ho
  split at ho
  · split at ho
    · obtain ⟨c, rfl, hk⟩ := ho
      exact .inl ⟨c, _, h1.str, h2.str, l _ hk⟩
    · exact ho.elim
  · obtain ⟨ys, s, f, fs, hk⟩ := ho
    obtain ⟨p, vs, rfl, hs, rp⟩ := h2.seq R.ext s
    obtain ⟨g1, g2⟩ := any_rep h1 f rp fs
    refine .inr ⟨p, vs, rfl, hs, flat_rep h1 f, g1, ?_⟩
    rw [g2]
    exact l _ hk
theorem dIn_ok : OpS K (rInA K false) dIn := by
  intro E F H σ a v1 v2 x y Q k R h1 h2 ho l
  exact dInB_ok R h1 h2 ho fun b hb => l _ (.dat _) F H (Same.refl F) R (Rep.bl _) hb
theorem dNotIn_ok : OpS K (rInA K true) dNotIn := by
  intro E F H σ a v1 v2 x y Q k R h1 h2 ho l
  exact dInB_ok R h1 h2 ho fun b hb => l _ (.dat _) F H (Same.refl F) R (Rep.bl _) hb
end

/-! ### subscripts, slices -/
section
variable {X : Cx} {W : L2.St → XK} {ta tb tc : TE} {ua ub : TT} {la : TA} {e a b c : Expr} {pos : Pos} {w w1 w2 w3 : WE}
def dIx : DOp := fun x y k => match x, y with
  | .str z, .int i => z.length ≤ sizeLine ∧ onO (atI z.cps.toList i) fun c => k (.dat (.str ⟨#[c]⟩))
  | x, .int i => onO (seqOf x) fun xs => onO (atI xs i) fun d => k (.dat d)
  | _, _ => False
theorem Reps.atI {K : PySem.W.Frag} {F : Hp} {vs : List V} {ds : List D} (r : Reps K F vs ds) {i : Int} {d : D} (h : L2.atI ds i = some d) : ∃ v, L2.atI vs i = some v ∧ Rep K F v d := by
  unfold L2.atI at *
  rw [r.length]
  cases e : ixN ds.length i with
  | none => rw [e] at h; cases h
  | some j =>
    rw [e] at h
    exact r.get' h
theorem dIx_ok {K : PySem.W.Frag} : OpS K (rIx K) dIx := by
  intro E F H σ a v1 v2 x y Q k R h1 h2 ho l
  unfold dIx at ho
  split at ho
  · obtain ⟨hz, ho⟩ := ho
    obtain ⟨c, h, hk⟩ := onO_iff.mp ho
    exact .inr (.inr ⟨_, _, c, h1.str, h2.int, hz, h, l _ (.dat _) F H (Same.refl F) R (Rep.str _) hk⟩)
  · obtain ⟨xs, s, ho⟩ := onO_iff.mp ho
    obtain ⟨d, h, hk⟩ := onO_iff.mp ho
    obtain ⟨p, vs, rfl, hs, rp⟩ := h1.seq R.ext s
    obtain ⟨v, hv, rv⟩ := rp.atI h
    have q := l v (.dat d) F H (Same.refl F) R rv hk
    rcases hs with hs | hs
    · exact .inl ⟨p, vs, _, v, rfl, h2.int, hs, hv, q⟩
    · exact .inr (.inl ⟨p, vs, _, v, rfl, h2.int, hs, hv, q⟩)
  · exact ho.elim
theorem se_ix (h1 : SE X W a ta w1) (h2 : SE X W b tb w2) (hs : PlainIx b) : SE X W (.Subscript a b pos) (tOp (rIx X.K) ta tb) (wBin dIx w1 w2) := by
  obtain ⟨pa, sa⟩ := id h1
  obtain ⟨pb, sb⟩ := id h2
  exact ⟨pe_ix ix_seq pa pb hs, bin_ok dIx_ok sa sb⟩
/-- a part of a slice -/
abbrev WO := PSt → (Option Int → PSt → Prop) → (Exc → PSt → Prop) → Prop
def Lo (K : PySem.W.Frag) (E : En) (F : Hp) (σ : L2.St) (q : Option Int → PSt → Prop) (Q : Option Int → Hp → Prop) : Prop :=
  ∀ b F' H' a', Same F F' → Rel K E F' H' σ a' → q b a' → Q b H'
def SO (X : Cx) (W : L2.St → XK) (e : Option Expr) (t : TO) (w : WO) : Prop := PO X e t ∧ ∀ E F H σ a Q q qe, Rel X.K E F H σ a → w a q qe → Lo X.K E F σ q Q → Lx X.K E F σ qe (W σ) → t σ H Q
def woN : WO := fun a q _ => q none a
def woS (w : WE) : WO := fun a q qe => w a (fun r a1 => onI (con a1 r) fun i => q (some i) a1) qe
variable {oa ob : TO}
theorem so_none : SO X W none tNoPart woN := ⟨po_none, fun E F H σ a Q q qe R hw l lx => l none F H a (Same.refl F) R hw⟩
theorem so_some (h : SE X W e ta w) : SO X W (some e) (tPart ta) (woS w) := by
  obtain ⟨p, s⟩ := h
  refine ⟨po_some p, fun E F H σ a Q q qe R hw l lx => s E F H σ a _ _ qe R hw (fun v1 r1 F1 H1 a1 e1 R1 rp hq => ?_) lx⟩
  obtain ⟨i, c, hq⟩ := onI_iff.mp hq
  exact ⟨i, (rd_of R1 rp c).int, l (some i) F1 H1 a1 e1 R1 hq⟩
def cutDs (xs : List D) (lo hi : Option Int) : List D := (xs.drop (HT.sIx xs.length 0 lo)).take (HT.sIx xs.length xs.length hi - HT.sIx xs.length 0 lo)
theorem Reps.cut {K : PySem.W.Frag} {F : Hp} {vs : List V} {ds : List D} (r : Reps K F vs ds) (lo hi : Option Int) : Reps K F (cutV vs lo hi) (cutDs ds lo hi) := by
  unfold cutV cutDs
  rw [r.length]
  exact (r.drop _).take _
def dSl (x : D) (lo hi : Option Int) (k : Res → Prop) : Prop := match x with
  | .lst xs => k (.new (.lst (cutDs xs lo hi)))
  | .rol xs => k (.new (.lst (cutDs xs lo hi)))
  | .tup xs => ¬ (HT.sIx xs.length 0 lo = 0 ∧ HT.sIx xs.length xs.length hi = xs.length) ∧ k (.dat (.tup (cutDs xs lo hi)))
  | .str z => z.length ≤ sizeLine ∧ k (.dat (.str (cutS z lo hi)))
  | _ => False
def wSl (w : WE) (wl wh : WO) : WE := fun a q qe => w a (fun r a1 => wl a1 (fun lo a2 => wh a2 (fun hi a3 => onO (con a3 (hold r)) fun x => dSl x lo hi fun r => q r a3) qe) qe) qe
theorem se_slice {lo hi : Option Expr} {p2 : Pos} {wl wh : WO} (h : SE X W e ta w) (h1 : SO X W lo oa wl) (h2 : SO X W hi ob wh) : SE X W (.Subscript e (.Slice lo hi none p2) pos) (tSl (fun x lo hi H Q => rSlL X.K x lo hi H Q ∨ rSlT X.K x lo hi H Q ∨ rSlS x lo hi H Q) ta oa ob) (wSl w wl wh) := by
  obtain ⟨p, s⟩ := h
  obtain ⟨p1, s1⟩ := h1
  obtain ⟨p2, s2⟩ := h2
  refine ⟨pe_slice (sl_list.or (sl_tup.or sl_str)) p p1 p2, fun E F H σ a Q q qe R hw l lx => ?_⟩
  refine s E F H σ a _ _ qe R hw (fun v1 r1 F1 H1 a1 e1 R1 rp hq => ?_) lx
  obtain ⟨F1', e1', R1', rp'⟩ := hold_ok R1 rp
  refine s1 E F1' H1 σ a1 _ _ qe R1' hq (fun lo F2 H2 a2 e2 R2 hq2 => ?_) (lx.to (e1.trans e1'))
  refine s2 E F2 H2 σ a2 _ _ qe R2 hq2 (fun hi F3 H3 a3 e3 R3 hq3 => ?_) (lx.to ((e1.trans e1').trans e2))
  obtain ⟨x, c, ho⟩ := onO_iff.mp hq3
  have rd := rd_of R3 (held_on (H' := H3) (a' := a3) (e2.trans e3) rp') c
  have e := ((e1.trans e1').trans e2).trans e3
  have l' : ∀ v r F' H', Same F3 F' → Rel X.K E F' H' σ a3 → RepR X.K E F' H' σ a3 v r → q r a3 → Q v H' := fun v r F' H' e' R' rp hq => l v r F' H' a3 (e.trans e') R' rp hq
  unfold dSl at ho
  split at ho
  · obtain ⟨p, vs, rfl, hp, r⟩ := rd.lst R3.ext
    exact .inl ⟨p, vs, rfl, .of hp, new_lst R3 (r.cut lo hi) l' ho⟩
  · obtain ⟨p, vs, rfl, hp, r⟩ := rd.rol R3.ext
    exact .inl ⟨p, vs, rfl, hp, new_lst R3 (r.cut lo hi) l' ho⟩
  · obtain ⟨p, vs, rfl, hp, r⟩ := rd.tup R3.ext
    exact .inr (.inl ⟨p, vs, rfl, .of hp, by rw [r.length]; exact ho.1, new_tup R3 (r.cut lo hi) l' ho.2⟩)
  · exact .inr (.inr ⟨_, rd.str, ho.1, l' _ (.dat _) F3 H3 (Same.refl F3) R3 (Rep.str _) ho.2⟩)
  · exact ho.elim
end
end DS

namespace DS
open PySem PySem.Spec PyProof.Rows L2

/-! ### calls of built-ins -/
abbrev DCall := List D → (Res → Prop) → Prop
def conts (a : PSt) : List Res → Option (List D)
  | [] => some []
  | r :: rs => match con a r, conts a rs with
    | some d, some ds => some (d :: ds)
    | _, _ => none
def CallS (K : PySem.W.Frag) (r : List V → Hp → VK → Prop) (op : DCall) : Prop :=
  ∀ E F H σ a vs ds Q k, Rel K E F H σ a → Paired (RdD K F H) vs ds → op ds k → (∀ v r F' H', Same F F' → Rel K E F' H' σ a → RepR K E F' H' σ a v r → k r → Q v H') → r vs H Q
theorem conts_rd {K : PySem.W.Frag} {E : En} {F H : Hp} {σ : L2.St} {a : PSt} (R : Rel K E F H σ a) : ∀ {vs : List V} {rs : List Res} {ds : List D}, RepRs K E F H σ a vs rs → conts a rs = some ds → Paired (RdD K F H) vs ds
  | _, _, _, .nil, c => by cases c; exact .nil
  | _, _, ds, .cons h t, c => by
    unfold conts at c
    split at c
    · cases c
      exact .cons (rd_of R h (by assumption)) (conts_rd R t (by assumption))
    · cases c
section
variable {X : Cx} {W : L2.St → XK} {ta tb tc : TE} {ua ub : TT} {la : TA} {e a b c o : Expr} {es : List Expr} {pos : Pos} {w w1 w2 w3 : WE} {ws : WA}
def wCB (op : DCall) (ws : WA) : WE := fun a q qe => ws a (fun rs a1 => onO (conts a1 rs) fun ds => op ds fun r => q r a1) qe
theorem cb_ok {r : List V → Hp → VK → Prop} {op : DCall} {t : TA} (hs : CallS X.K r op) (s : ∀ E F H σ a Q q qe, Rel X.K E F H σ a → ws a q qe → La X.K E F σ q Q → Lx X.K E F σ qe (W σ) → t σ H Q) :
    ∀ E F H σ a Q q qe, Rel X.K E F H σ a → wCB op ws a q qe → Ln X.K E F σ q Q → Lx X.K E F σ qe (W σ) → tCB r t σ H Q := by
  intro E F H σ a Q q qe R hw l lx
  refine s E F H σ a _ _ qe R hw (fun vs rs F1 H1 a1 e1 R1 rps hn hq => ?_) lx
  obtain ⟨ds, c, ho⟩ := onO_iff.mp hq
  exact hs E F1 H1 σ a1 vs ds Q _ R1 (conts_rd R1 rps c) ho fun v r F' H' e' R' rp k => l v r F' H' a1 (e1.trans e') R' rp k
theorem se_callB {id : String} {x : Str} {p : Pos} {r : List V → Hp → VK → Prop} {op : DCall} (hc : CallR X (.builtin id) r) (hs : CallS X.K r op) (hg : Gl X x) (hm : X.mg x = none) (hv : bootBuiltins x = some (.builtin id)) (ha : SA X W (e :: es) la ws) (hn : x ≠ "__name__" := by decide) (hdb : (x == ("__debug__" : Str)) = false := by decide)
    (he : starEach (e :: es) X.env = (false, eval e X.env) :: starEach es X.env := by rfl) (hpl : (backTo pos (starEach es X.env)).any (·.1) = false := by rfl) : SE X W (.Call (.Name x p) (e :: es) [] pos) (tCB r la) (wCB op ws) := by
  obtain ⟨pa, s⟩ := ha
  exact ⟨pe_callB hc hg hm hv pa hn hdb he hpl, cb_ok hs s⟩
theorem se_callTy {T : String} {x : Str} {p : Pos} {r : List V → Hp → VK → Prop} {op : DCall} (hc : CallR X (.type T) r) (hs : CallS X.K r op) (hg : Gl X x) (hm : X.mg x = none) (hv : bootBuiltins x = some (.type T)) (ha : SA X W (e :: es) la ws) (hn : x ≠ "__name__" := by decide) (hdb : (x == ("__debug__" : Str)) = false := by decide)
    (he : starEach (e :: es) X.env = (false, eval e X.env) :: starEach es X.env := by rfl) (hpl : (backTo pos (starEach es X.env)).any (·.1) = false := by rfl) : SE X W (.Call (.Name x p) (e :: es) [] pos) (tCB r la) (wCB op ws) := by
  obtain ⟨pa, s⟩ := ha
  exact ⟨pe_callTy hc hg hm hv pa hn hdb he hpl, cb_ok hs s⟩
end

section
variable {K : PySem.W.Frag} {X : Cx}
/-! len -/
def rLenA (K : PySem.W.Frag) : List V → Hp → VK → Prop := fun xs H Q => (∃ p ys, xs = [.ref p] ∧ (SqL K H p ys ∨ SqT K H p ys) ∧ Q (.int ys.length) H) ∨ (∃ z, xs = [.str z] ∧ z.length ≤ sizeLine ∧ Q (.int z.length) H) ∨
  ∃ a kvs, xs = [V.ref a] ∧ H a = some (.dK kvs) ∧ Q (.int kvs.length) H
theorem call_lenA : CallR X (.builtin "len") (rLenA X.K) := call_len_seq.or (call_len_str.or call_lenD)
theorem RepA.length {κ : Type} {F : Hp} : ∀ {vs : List (κ × V)} {ds : List (κ × D)}, RepA K F vs ds → vs.length = ds.length
  | [], [], _ => rfl
  | [], _ :: _, h => by cases h
  | _ :: _, [], h => by cases h
  | (k, v) :: vs, (j, d) :: ds, h => by
    cases h with
    | cons _ t => exact congrArg (· + 1) t.length
def dLen : DCall := fun ds k => match ds with
  | [.str z] => z.length ≤ sizeLine ∧ k (.dat (.int z.length))
  | [.dK kvs] => k (.dat (.int kvs.length))
  | [d] => onO (seqOf d) fun xs => k (.dat (.int xs.length))
  | _ => False
theorem dLen_ok : CallS K (rLenA K) dLen := by
  intro E F H σ a vs ds Q k R h ho l
  have hl : ∀ n : Nat, k (.dat (.int n)) → Q (.int n) H := fun n hn => l _ (.dat _) F H (Same.refl F) R (Rep.int _) hn
  unfold dLen at ho
  split at ho
  · cases h with
    | cons h t =>
      cases t
      obtain rfl := h.str
      exact .inr (.inl ⟨_, rfl, ho.1, hl _ ho.2⟩)
  · cases h with
    | cons h t =>
      cases t
      obtain ⟨p, ws, rfl, hp, r⟩ := h.dK R.ext
      exact .inr (.inr ⟨p, ws, rfl, hp, by rw [r.length]; exact hl _ ho⟩)
  · obtain ⟨xs, s, ho⟩ := onO_iff.mp ho
    cases h with
    | cons h t =>
      cases t
      obtain ⟨p, ws, rfl, hp, r⟩ := h.seq R.ext s
      exact .inl ⟨p, ws, rfl, hp, by rw [r.length]; exact hl _ ho⟩
  · exact ho.elim
/-! int, min, max, abs, ord, chr, list, tuple, sum -/
def dInt : DCall := fun ds k => match ds with
  | [.int i] => k (.dat (.int i))
  | [.bl b] => k (.dat (.int (if b then 1 else 0)))
  | _ => False
theorem dInt_ok : CallS K (fun xs H Q => (∃ i, xs = [.int i] ∧ Q (.int i) H) ∨ ∃ k, xs = [.bl k] ∧ Q (.int (if k then 1 else 0)) H) dInt := by
  intro E F H σ a vs ds Q k R h ho l
  unfold dInt at ho
  split at ho
  · cases h with
    | cons h t => cases t; obtain rfl := h.int; exact .inl ⟨_, rfl, l _ (.dat _) F H (Same.refl F) R (Rep.int _) ho⟩
  · cases h with
    | cons h t => cases t; obtain rfl := h.bl; exact .inr ⟨_, rfl, l _ (.dat _) F H (Same.refl F) R (Rep.int _) ho⟩
  · exact ho.elim
def dMin2 : DCall := fun ds k => match ds with
  | [.int i, .int j] => k (.dat (.int (if j < i then j else i)))
  | _ => False
def dMax2 : DCall := fun ds k => match ds with
  | [.int i, .int j] => k (.dat (.int (if j > i then j else i)))
  | _ => False
theorem dMin2_ok : CallS K (fun xs H Q => ∃ i j, xs = [.int i, .int j] ∧ Q (.int (if j < i then j else i)) H) dMin2 := by
  intro E F H σ a vs ds Q k R h ho l
  unfold dMin2 at ho
  split at ho
  · cases h with
    | cons h t => cases t with
      | cons h' t => cases t; obtain rfl := h.int; obtain rfl := h'.int; exact ⟨_, _, rfl, l _ (.dat _) F H (Same.refl F) R (Rep.int _) ho⟩
  · exact ho.elim
theorem dMax2_ok : CallS K (fun xs H Q => ∃ i j, xs = [.int i, .int j] ∧ Q (.int (if j > i then j else i)) H) dMax2 := by
  intro E F H σ a vs ds Q k R h ho l
  unfold dMax2 at ho
  split at ho
  · cases h with
    | cons h t => cases t with
      | cons h' t => cases t; obtain rfl := h.int; obtain rfl := h'.int; exact ⟨_, _, rfl, l _ (.dat _) F H (Same.refl F) R (Rep.int _) ho⟩
  · exact ho.elim
def dAbs : DCall := fun ds k => match ds with
  | [.int i] => k (.dat (.int (if i < 0 then -i else i)))
  | _ => False
theorem dAbs_ok : CallS K (fun xs H Q => ∃ i, xs = [.int i] ∧ Q (.int (if i < 0 then -i else i)) H) dAbs := by
  intro E F H σ a vs ds Q k R h ho l
  unfold dAbs at ho
  split at ho
  · cases h with
    | cons h t => cases t; obtain rfl := h.int; exact ⟨_, rfl, l _ (.dat _) F H (Same.refl F) R (Rep.int _) ho⟩
  · exact ho.elim
def dOrd : DCall := fun ds k => match ds with
  | [.str x] => x.length = 1 ∧ k (.dat (.int (x.cps.getD 0 0 : Nat)))
  | _ => False
theorem dOrd_ok : CallS K (fun xs H Q => ∃ x, xs = [.str x] ∧ x.length = 1 ∧ Q (.int (x.cps.getD 0 0 : Nat)) H) dOrd := by
  intro E F H σ a vs ds Q k R h ho l
  unfold dOrd at ho
  split at ho
  · cases h with
    | cons h t => cases t; obtain rfl := h.str; exact ⟨_, rfl, ho.1, l _ (.dat _) F H (Same.refl F) R (Rep.int _) ho.2⟩
  · exact ho.elim
def dChr : DCall := fun ds k => match ds with
  | [.int i] => (0 ≤ i ∧ i ≤ 1114111) ∧ k (.dat (.str ⟨#[i.toNat]⟩))
  | _ => False
theorem dChr_ok : CallS K (fun xs H Q => ∃ i, xs = [.int i] ∧ 0 ≤ i ∧ i ≤ 1114111 ∧ Q (.str ⟨#[i.toNat]⟩) H) dChr := by
  intro E F H σ a vs ds Q k R h ho l
  unfold dChr at ho
  split at ho
  · cases h with
    | cons h t => cases t; obtain rfl := h.int; exact ⟨_, rfl, ho.1.1, ho.1.2, l _ (.dat _) F H (Same.refl F) R (Rep.str _) ho.2⟩
  · exact ho.elim
def dStrI : DCall := fun ds k => match ds with
  | [.int i] => i.natAbs.log2 < 1920 ∧ k (.dat (.str (toString i)))
  | _ => False
theorem dStrI_ok : CallS K (fun xs H Q => ∃ i, xs = [.int i] ∧ i.natAbs.log2 < 1920 ∧ Q (.str (toString i)) H) dStrI := by
  intro E F H σ a vs ds Q k R h ho l
  unfold dStrI at ho
  split at ho
  · cases h with
    | cons h t => cases t; obtain rfl := h.int; exact ⟨_, rfl, ho.1, l _ (.dat _) F H (Same.refl F) R (Rep.str _) ho.2⟩
  · exact ho.elim
def dList : DCall := fun ds k => match ds with
  | [d] => onO (seqOf d) fun xs => k (.new (.lst xs))
  | _ => False
theorem dList_ok : CallS K (fun xs H Q => ∃ p ys, xs = [.ref p] ∧ (SqL K H p ys ∨ SqT K H p ys) ∧ ∀ l, H l = none → Q (.ref l) (upd H l (.lst ys))) dList := by
  intro E F H σ a vs ds Q k R h ho l
  unfold dList at ho
  split at ho
  · obtain ⟨xs, s, ho⟩ := onO_iff.mp ho
    cases h with
    | cons h t =>
      cases t
      obtain ⟨p, ws, rfl, hp, r⟩ := h.seq R.ext s
      exact ⟨p, ws, rfl, hp, new_lst R r l ho⟩
  · exact ho.elim
/-- tuple(xs) of a list -/
def dTupL : DCall := fun ds k => match ds with
  | [.lst xs] => k (.dat (.tup xs))
  | [.rol xs] => k (.dat (.tup xs))
  | [.tup xs] => k (.dat (.tup xs))
  | _ => False
theorem dTupL_ok : CallS K (fun xs H Q => ∃ p ys, xs = [.ref p] ∧ ((SqL K H p ys ∧ ∀ l, H l = none → Q (.ref l) (upd H l (.tup ys))) ∨ (SqT K H p ys ∧ Q (.ref p) H))) dTupL := by
  intro E F H σ a vs ds Q k R h ho l
  unfold dTupL at ho
  split at ho
  · cases h with
    | cons h t =>
      cases t
      obtain ⟨p, ws, rfl, hp, r⟩ := h.lst R.ext
      exact ⟨p, ws, rfl, .inl ⟨.of hp, new_tup R r l ho⟩⟩
  · cases h with
    | cons h t =>
      cases t
      obtain ⟨p, ws, rfl, hp, r⟩ := h.rol R.ext
      exact ⟨p, ws, rfl, .inl ⟨hp, new_tup R r l ho⟩⟩
  · cases h with
    | cons h t =>
      cases t
      rcases h with h | ⟨p, rfl, o, hp, t⟩
      · have h' := h
        cases h with
        | tup hp r => exact ⟨_, _, rfl, .inr ⟨.of (R.ext _ _ hp), l _ (.dat _) F H (Same.refl F) R h' ho⟩⟩
      · cases t
  · exact ho.elim
def dSum : DCall := fun ds k => match ds with
  | [d] => ∃ (xs : List D) (ns : List Int), (d = .lst xs ∨ d = .rol xs) ∧ xs = ns.map D.int ∧ k (.dat (.int ns.sum))
  | _ => False
theorem dSum_ok : CallS K (rSum K) dSum := by
  intro E F H σ a vs ds Q k R h ho l
  unfold dSum at ho
  split at ho
  · obtain ⟨xs, ns, s, rfl, ho⟩ := ho
    cases h with
    | cons h t =>
      cases t
      rcases s with rfl | rfl
      · obtain ⟨p, ws, rfl, hp, r⟩ := h.lst R.ext
        obtain rfl := r.ints
        exact ⟨p, ns, rfl, .of hp, l _ (.dat _) F H (Same.refl F) R (Rep.int _) ho⟩
      · obtain ⟨p, ws, rfl, hp, r⟩ := h.rol R.ext
        obtain rfl := r.ints
        exact ⟨p, ns, rfl, hp, l _ (.dat _) F H (Same.refl F) R (Rep.int _) ho⟩
  · exact ho.elim
/-! isinstance(x, T), T a built-in class -/
def tyD : D → Option String
  | .non => some "NoneType"
  | .bl _ => some "bool"
  | .int _ => some "int"
  | .str _ => some "str"
  | .lst _ => some "list"
  | .tup _ => some "tuple"
  | .dK _ => some "dict"
  | .dT _ => some "dict"
  | _ => none
/-- isinstance of data: the answers, as the model's own text gives them -/
def isiB (x : D) (n : TyN) : Option Bool := match x with
  | .non => some false
  | .bl _ => some (match n with | .bool => true | .int => true | _ => false)
  | .int _ => some (match n with | .int => true | _ => false)
  | .str _ => some (match n with | .str => true | _ => false)
  | .lst _ => some (match n with | .list => true | _ => false)
  | .tup _ => some (match n with | .tuple => true | _ => false)
  | .dK _ => some (match n with | .dict => true | _ => false)
  | .dT _ => some (match n with | .dict => true | _ => false)
  | _ => none
def dIsi : DCall := fun ds k => match ds with
  | [x, .ty n] => onO (isiB x n) fun b => k (.dat (.bl b))
  | _ => False
theorem RdD.tyX {E : En} {F H : Hp} {σ : L2.St} {a : PSt} (R : Rel K E F H σ a) {v : V} {d : D} {m : String} (h : RdD K F H v d) (s : tyD d = some m) : TyX K H v (.type m) := by
  cases d with
  | non => cases s; rw [h.non]; exact .base .non
  | bl b => cases s; rw [h.bl]; exact .base (.bl b)
  | int b => cases s; rw [h.int]; exact .base (.int b)
  | str b => cases s; rw [h.str]; exact .base (.str b)
  | lst xs => cases s; obtain ⟨p, ws, rfl, hp, r⟩ := h.lst R.ext; exact .base (.lst hp)
  | tup xs => cases s; obtain ⟨p, ws, rfl, hp, r⟩ := h.tup R.ext; exact .base (.tup hp)
  | dK xs => cases s; obtain ⟨p, ws, rfl, hp, r⟩ := h.dK R.ext; exact .base (.dK hp)
  | dT xs => cases s; obtain ⟨p, ws, rfl, hp, r⟩ := h.dT R.ext; exact .base (.dT hp)
  | _ => cases s
theorem isiB_of {x : D} {n : TyN} {b : Bool} (h : isiB x n = some b) : ∃ m, tyD x = some m ∧ kitB m n.s = some b := by
  cases x <;> first
    | (cases h; done)
    | (refine ⟨_, rfl, ?_⟩
       cases n <;> (cases h; decide +kernel))
theorem dIsi_ok : CallS K (rIsi K) dIsi := by
  intro E F H σ a vs ds Q k R h ho l
  unfold dIsi at ho
  split at ho
  · obtain ⟨b, hb, ho⟩ := onO_iff.mp ho
    obtain ⟨m, s, kb⟩ := isiB_of hb
    cases h with
    | cons h t => cases t with
      | cons h' t =>
        cases t
        obtain rfl := h'.ty
        exact ⟨_, _, _, _, b, rfl, .ty _, h.tyX R s, kit_ty kb, l _ (.dat _) F H (Same.refl F) R (Rep.bl _) ho⟩
  · exact ho.elim
end
end DS

namespace DS
open PySem PySem.Spec PyProof.Rows L2

/-! ### what a def does, as its caller sees it -/
abbrev Spec := List AV → (AV → List AV → Prop) → (Exc → List AV → Prop) → Prop
def LentAt (vs : List V) (as : List AV) (p : Addr) : Prop := ∃ (k : Nat) (c : D), as[k]? = some ⟨.lent, c⟩ ∧ vs[k]? = some (.ref p)
structure ArgsOk (K : PySem.W.Frag) (F H : Hp) (vs : List V) (as : List AV) : Prop where
  ext : Same F H
  len : vs.length = as.length
  at_ : ∀ (k : Nat) (av : AV), as[k]? = some av → ∃ v, vs[k]? = some v ∧ (av.o = .no → Rep K F v av.c) ∧ (av.o ≠ .no → av.o = .lent ∧ ∃ p, v = .ref p ∧ F p = none ∧ TopAt K F H p av.c)
  dis : ∀ (i j : Nat) (ai aj : AV) (p : Addr), i ≠ j → as[i]? = some ai → as[j]? = some aj → ai.o ≠ .no → aj.o ≠ .no → vs[i]? = some (.ref p) → vs[j]? = some (.ref p) → False
structure Post (K : PySem.W.Frag) (F H : Hp) (vs : List V) (as : List AV) (F' H' : Hp) (as' : List AV) : Prop where
  f : Same F F'
  ext : Same F' H'
  new : ∀ p o, F' p = some o → F p = some o ∨ H p = none ∨ ∃ xs, o = .tup xs
  keep : ∀ p o, H p = some o → ¬ LentAt vs as p → H' p = some o
  dom : ∀ p, H' p = none → H p = none
  lent : ∀ (k : Nat) (c : D) (p : Addr), as[k]? = some ⟨.lent, c⟩ → vs[k]? = some (.ref p) → ∃ c', as'[k]? = some ⟨.lent, c'⟩ ∧ F' p = none ∧ TopAt K F' H' p c'
def RetOk (K : PySem.W.Frag) (H F' H' : Hp) (v : V) (r : AV) : Prop := match r.o with
  | .no => Rep K F' v r.c
  | _ => ∃ p, v = .ref p ∧ F' p = none ∧ H p = none ∧ TopAt K F' H' p r.c
/-- the promise -/
def spOf (K : PySem.W.Frag) (spec : Spec) : Sp := fun vs H Q E => ∃ F as Q0 Qe0, ArgsOk K F H vs as ∧ spec as Q0 Qe0 ∧
  (∀ r as', Q0 r as' → ∀ v F' H', Post K F H vs as F' H' as' → RetOk K H F' H' v r → Q v H') ∧
  (∀ x as', Qe0 x as' → ∀ cls dx F' H', Post K F H vs as F' H' as' → ExcR K F' H' x cls dx → E cls dx H')

/-! ### a call -/
def isOwn (a : PSt) (i : Nat) : Bool := match a[i]? with
  | some (some ⟨.own, _⟩) => true
  | some (some ⟨.lent, _⟩) => true
  | _ => false
def hasSlot (i : Nat) : List Res → Bool
  | [] => false
  | .slot j :: rs => (i == j) || hasSlot i rs
  | _ :: rs => hasSlot i rs
def sep (a : PSt) : List Res → Bool
  | [] => true
  | .slot i :: rs => (!isOwn a i || !hasSlot i rs) && sep a rs
  | _ :: rs => sep a rs
def avOf (a : PSt) : Res → Option AV
  | .dat d => some ⟨.no, d⟩
  | .new d => none
  | .slot i => match a[i]? with
    | some (some ⟨.no, c⟩) => some ⟨.no, c⟩
    | some (some ⟨_, c⟩) => some ⟨.lent, c⟩
    | _ => none
def avsOf (a : PSt) : List Res → Option (List AV)
  | [] => some []
  | r :: rs => match avOf a r, avsOf a rs with
    | some d, some ds => some (d :: ds)
    | _, _ => none
/-- behind the call: what was lent comes back -/
def putBack : PSt → List Res → List AV → PSt
  | a, [], _ => a
  | a, _ :: _, [] => a
  | a, .slot i :: rs, av :: as => match a[i]? with
    | some (some ⟨.own, _⟩) => putBack (a.set i (some ⟨.own, av.c⟩)) rs as
    | some (some ⟨.lent, _⟩) => putBack (a.set i (some ⟨.lent, av.c⟩)) rs as
    | _ => putBack a rs as
  | a, _ :: rs, _ :: as => putBack a rs as
def resOf : AV → Res
  | ⟨.no, d⟩ => .dat d
  | ⟨_, d⟩ => .new d
theorem putBack_other : ∀ (rs : List Res) (a : PSt) (as : List AV) (j : Nat), (isOwn a j = false ∨ hasSlot j rs = false) → (putBack a rs as)[j]? = a[j]?
  | [], a, as, j, _ => by cases as <;> rfl
  | r :: rs, a, [], j, _ => by cases r <;> rfl
  | .dat d :: rs, a, av :: as, j, h => putBack_other rs a as j h
  | .new d :: rs, a, av :: as, j, h => putBack_other rs a as j h
  | .slot i :: rs, a, av :: as, j, h => by
    have hs : ∀ o c, (∃ c', a[i]? = some (some ⟨o, c'⟩)) → o ≠ .no → i ≠ j ∧ (putBack (a.set i (some ⟨o, c⟩)) rs as)[j]? = a[j]? := by
      intro o c ⟨c', e⟩ ho
      have hij : i ≠ j := fun z => by
        subst z
        rcases h with h | h
        · unfold isOwn at h
          rw [e] at h
          cases o <;> first | exact ho rfl | cases h
        · simp [hasSlot] at h
      refine ⟨hij, ?_⟩
      rw [putBack_other rs _ as j ?_, List.getElem?_set_ne hij]
      rcases h with h | h
      · exact .inl (by unfold isOwn at *; rw [List.getElem?_set_ne hij]; exact h)
      · refine .inr ?_
        simp only [hasSlot, Bool.or_eq_false_iff] at h
        exact h.2
    unfold putBack
    split
    · exact (hs .own _ ⟨_, by assumption⟩ (by simp)).2
    · exact (hs .lent _ ⟨_, by assumption⟩ (by simp)).2
    · refine putBack_other rs a as j ?_
      rcases h with h | h
      · exact .inl h
      · simp only [hasSlot, Bool.or_eq_false_iff] at h
        exact .inr h.2
theorem putBack_length : ∀ (rs : List Res) (a : PSt) (as : List AV), (putBack a rs as).length = a.length
  | [], a, as => by cases as <;> rfl
  | r :: rs, a, [] => by cases r <;> rfl
  | .dat d :: rs, a, av :: as => putBack_length rs a as
  | .new d :: rs, a, av :: as => putBack_length rs a as
  | .slot i :: rs, a, av :: as => by
    unfold putBack
    split
    · rw [putBack_length, List.length_set]
    · rw [putBack_length, List.length_set]
    · exact putBack_length rs a as
theorem sep_set {a : PSt} {i : Nat} {o : Ow} {c c' : D} (e : a[i]? = some (some ⟨o, c⟩)) : ∀ (rs : List Res), sep (a.set i (some ⟨o, c'⟩)) rs = sep a rs
  | [] => rfl
  | .dat _ :: rs => by unfold sep; exact sep_set e rs
  | .new _ :: rs => by unfold sep; exact sep_set e rs
  | .slot j :: rs => by
    unfold sep
    rw [sep_set e rs]
    have : isOwn (a.set i (some ⟨o, c'⟩)) j = isOwn a j := by
      unfold isOwn
      by_cases h : i = j
      · subst h
        rw [List.getElem?_set_self (List.getElem?_eq_some_iff.mp e).1, e]
        cases o <;> rfl
      · rw [List.getElem?_set_ne h]
    rw [this]
theorem putBack_at : ∀ (rs : List Res) (a : PSt) (as : List AV) (k j : Nat) (o : Ow) (c : D) (av : AV), sep a rs = true → rs[k]? = some (.slot j) → a[j]? = some (some ⟨o, c⟩) → o ≠ .no → as[k]? = some av →
    (putBack a rs as)[j]? = some (some ⟨o, av.c⟩)
  | [], _, _, _, _, _, _, _, _, h, _, _, _ => by simp at h
  | _ :: _, _, [], _, _, _, _, _, _, _, _, _, h => by simp at h
  | r :: rs, a, x :: as, 0, j, o, c, av, hs, h, e, ho, hx => by
    simp at h hx
    subst h hx
    unfold putBack
    unfold sep at hs
    have hown : isOwn a j = true := by
      unfold isOwn
      rw [e]
      cases o <;> first | exact absurd rfl ho | rfl
    rw [Bool.and_eq_true, hown] at hs
    have hns : hasSlot j rs = false := by simpa using hs.1
    rw [e]
    have hj := (List.getElem?_eq_some_iff.mp e).1
    cases o with
    | no => exact absurd rfl ho
    | own => simp only; rw [putBack_other _ _ _ _ (.inr hns), List.getElem?_set_self hj]
    | lent => simp only; rw [putBack_other _ _ _ _ (.inr hns), List.getElem?_set_self hj]
  | .dat _ :: rs, a, x :: as, k + 1, j, o, c, av, hs, h, e, ho, hx => by
    simp at h hx
    exact putBack_at rs a as k j o c av hs h e ho hx
  | .new _ :: rs, a, x :: as, k + 1, j, o, c, av, hs, h, e, ho, hx => by
    simp at h hx
    exact putBack_at rs a as k j o c av hs h e ho hx
  | .slot i :: rs, a, x :: as, k + 1, j, o, c, av, hs, h, e, ho, hx => by
    simp at h hx
    unfold sep at hs
    rw [Bool.and_eq_true] at hs
    unfold putBack
    have hin : hasSlot j rs = true := by
      clear hs hx e
      induction rs generalizing k with
      | nil => simp at h
      | cons r rs ih =>
        cases k with
        | zero => simp at h; subst h; simp [hasSlot]
        | succ k =>
          simp at h
          have := ih k h
          cases r with
          | slot m => simp [hasSlot, this]
          | dat d => exact this
          | new d => exact this
    have hij : isOwn a i = true → i ≠ j := fun hi z => by
      subst z
      rw [hi, hin] at hs
      simp at hs
    have go : ∀ o', (∃ c', a[i]? = some (some ⟨o', c'⟩)) → o' ≠ .no → (putBack (a.set i (some ⟨o', x.c⟩)) rs as)[j]? = some (some ⟨o, av.c⟩) := by
      intro o' ⟨c', e'⟩ ho'
      have hne : i ≠ j := hij (by
        unfold isOwn
        rw [e']
        cases o' <;> first | exact absurd rfl ho' | rfl)
      exact putBack_at rs _ as k j o c av (by rw [sep_set e']; exact hs.2) h (by rw [List.getElem?_set_ne hne]; exact e) ho hx
    split
    · exact go .own ⟨_, by assumption⟩ (by simp)
    · exact go .lent ⟨_, by assumption⟩ (by simp)
    · exact putBack_at rs a as k j o c av hs.2 h e ho hx
theorem avOf_slot {a : PSt} {s : Nat} {av : AV} (h : avOf a (.slot s) = some av) : (∃ c, a[s]? = some (some ⟨.no, c⟩) ∧ av = ⟨.no, c⟩) ∨ ∃ o c, a[s]? = some (some ⟨o, c⟩) ∧ o ≠ .no ∧ isOwn a s = true ∧ av = ⟨.lent, c⟩ := by
  simp only [avOf] at h
  split at h
  · cases h; exact .inl ⟨_, by assumption, rfl⟩
  · rename_i o c hno e
    cases h
    have ho : o ≠ .no := fun z => hno z
    refine .inr ⟨o, c, e, ho, ?_, rfl⟩
    unfold isOwn
    rw [e]
    cases o <;> first | exact absurd rfl ho | rfl
  · cases h
theorem avsOf_get {a : PSt} : ∀ {rs : List Res} {as : List AV}, avsOf a rs = some as → as.length = rs.length ∧ ∀ (k : Nat) (av : AV), as[k]? = some av → ∃ r, rs[k]? = some r ∧ avOf a r = some av
  | [], _, h => by cases h; exact ⟨rfl, fun k av h => by simp at h⟩
  | r :: rs, as, h => by
    unfold avsOf at h
    split at h
    · cases h
      rename_i h1 h2
      obtain ⟨l, q⟩ := avsOf_get h2
      refine ⟨by simp [l], fun k av hk => ?_⟩
      cases k with
      | zero => simp at hk; subst hk; exact ⟨r, rfl, h1⟩
      | succ k => simp at hk; exact q k av hk
    · cases h
theorem paired_get {α β : Type} {P : α → β → Prop} : ∀ {xs : List α} {ys : List β} {k : Nat} {y : β}, Paired P xs ys → ys[k]? = some y → ∃ x, xs[k]? = some x ∧ P x y
  | _, _, _, _, .nil, h => by simp at h
  | _, _, 0, _, .cons r _, h => by simp at h; subst h; exact ⟨_, rfl, r⟩
  | _, _, k + 1, y, .cons _ t, h => by
    obtain ⟨x, h1, h2⟩ := paired_get (k := k) (y := y) t (by simpa using h)
    exact ⟨x, by simpa using h1, h2⟩
/-- two places of one owned slot -/
theorem sep_dis {a : PSt} : ∀ {rs : List Res} {i j s : Nat}, sep a rs = true → i ≠ j → rs[i]? = some (.slot s) → rs[j]? = some (.slot s) → isOwn a s = true → False
  | [], _, _, _, _, _, h, _, _ => by simp at h
  | r :: rs, 0, 0, _, _, n, _, _, _ => n rfl
  | r :: rs, 0, j + 1, s, hs, _, h1, h2, ho => by
    simp at h1 h2
    subst h1
    unfold sep at hs
    have hin : hasSlot s rs = true := by
      clear hs
      induction rs generalizing j with
      | nil => simp at h2
      | cons r rs ih =>
        cases j with
        | zero => simp at h2; subst h2; simp [hasSlot]
        | succ k =>
          simp at h2
          have := ih k (by omega) h2
          cases r with
          | slot m => simp [hasSlot, this]
          | dat d => exact this
          | new d => exact this
    rw [ho, hin] at hs
    simp at hs
  | r :: rs, i + 1, 0, s, hs, n, h1, h2, ho => sep_dis (rs := r :: rs) (i := 0) (j := i + 1) hs (by omega) h2 h1 ho
  | r :: rs, i + 1, j + 1, s, hs, n, h1, h2, ho => by
    simp at h1 h2
    have hs' : sep a rs = true := by
      cases r with
      | slot m => unfold sep at hs; rw [Bool.and_eq_true] at hs; exact hs.2
      | dat d => exact hs
      | new d => exact hs
    exact sep_dis hs' (by omega) h1 h2 ho
section
variable {K : PySem.W.Frag} {E : En} {F F' H H' : Hp} {σ : L2.St} {a : PSt}
theorem args_ok (R : Rel K E F H σ a) {vs : List V} {rs : List Res} {as : List AV} (rp : RepRs K E F H σ a vs rs) (hs : sep a rs = true) (ha : avsOf a rs = some as) : ArgsOk K F H vs as := by
  obtain ⟨hl, hg⟩ := avsOf_get ha
  have key : ∀ (k : Nat) (av : AV), as[k]? = some av → av.o ≠ .no → ∃ s, rs[k]? = some (.slot s) ∧ isOwn a s = true := fun k av h ho => by
    obtain ⟨r, h1, h2⟩ := hg k av h
    cases r with
    | dat d => cases h2; exact absurd rfl ho
    | new d => cases h2
    | slot s =>
      rcases avOf_slot h2 with ⟨c, e, rfl⟩ | ⟨o, c, e, hne, w, rfl⟩
      · exact absurd rfl ho
      · exact ⟨s, h1, w⟩
  refine ⟨R.ext, by rw [hl]; exact Paired.length rp, fun k av h => ?_, fun i j ai aj p hij h1 h2 o1 o2 v1 v2 => ?_⟩
  · obtain ⟨r, h1, h2⟩ := hg k av h
    obtain ⟨v, h3, h4⟩ := paired_get rp h1
    refine ⟨v, h3, ?_⟩
    cases r with
    | dat d => cases h2; exact ⟨fun _ => h4, fun z => absurd rfl z⟩
    | new d => cases h2
    | slot s =>
      have hv : σ[s]? = some (some v) := h4
      rcases avOf_slot h2 with ⟨c, e, rfl⟩ | ⟨o, c, e, hne, w, rfl⟩
      · obtain ⟨u, e1, q⟩ := R.sl s _ e
        rw [hv] at e1
        cases e1
        exact ⟨fun _ => q, fun z => absurd rfl z⟩
      · refine ⟨fun z => (by cases z), fun _ => ⟨rfl, ?_⟩⟩
        obtain ⟨u, e1, q⟩ := R.sl s _ e
        rw [hv] at e1
        cases e1
        cases o with
        | no => exact absurd rfl hne
        | own => obtain ⟨p, e2, g1, g2, g3⟩ := q; exact ⟨p, e2, g1, g3⟩
        | lent => obtain ⟨p, e2, g1, g2, g4, g3⟩ := q; exact ⟨p, e2, g1, g3⟩
  · obtain ⟨s1, r1, w1⟩ := key i ai h1 o1
    obtain ⟨s2, r2, w2⟩ := key j aj h2 o2
    obtain ⟨u1, x1, y1⟩ := paired_get rp r1
    obtain ⟨u2, x2, y2⟩ := paired_get rp r2
    rw [v1] at x1
    cases x1
    rw [v2] at x2
    cases x2
    have y1' : σ[s1]? = some (some (.ref p)) := y1
    have y2' : σ[s2]? = some (some (.ref p)) := y2
    by_cases e : s1 = s2
    · subst e
      exact sep_dis hs hij r1 r2 w1
    · have fl : ∀ s, isOwn a s = true → ∃ av : AV, a[s]? = some (some av) ∧ av.o ≠ .no := fun s h => by
        unfold isOwn at h
        split at h
        · exact ⟨_, by assumption, by simp⟩
        · exact ⟨_, by assumption, by simp⟩
        · cases h
      obtain ⟨b1, f1, g1⟩ := fl s1 w1
      obtain ⟨b2, f2, g2⟩ := fl s2 w2
      exact R.dis s1 s2 b1 b2 p e f1 f2 g1 g2 y1' y2'
/-- the caller's state behind the call -/
theorem rel_back (R : Rel K E F H σ a) {vs : List V} {rs : List Res} {as as' : List AV} (rp : RepRs K E F H σ a vs rs) (hs : sep a rs = true) (ha : avsOf a rs = some as) (P : Post K F H vs as F' H' as') :
    Rel K E F' H' σ (putBack a rs as') := by
  obtain ⟨hl, hg⟩ := avsOf_get ha
  -- a lent address is some slot's
  have lent_own : ∀ p, LentAt vs as p → Owned σ a p ∧ ∃ (k s : Nat), rs[k]? = some (.slot s) ∧ σ[s]? = some (some (.ref p)) ∧ isOwn a s = true := fun p ⟨k, c, h1, h2⟩ => by
    obtain ⟨r, h3, h4⟩ := hg k _ h1
    obtain ⟨v, h5, h6⟩ := paired_get rp h3
    rw [h2] at h5
    cases h5
    cases r with
    | dat d => cases h4
    | new d => cases h4
    | slot s =>
      have hv : σ[s]? = some (some (.ref p)) := h6
      rcases avOf_slot h4 with ⟨c', e, z⟩ | ⟨o, c', e, hne, w, z⟩
      · cases z
      · exact ⟨⟨s, _, e, hne, hv⟩, k, s, h3, hv, w⟩
  have nolent : ∀ p, E.H p ≠ none → ¬ E.L p → ¬ LentAt vs as p := fun p h1 h2 h => by
    obtain ⟨⟨i, av, e1, e2, e3⟩, _⟩ := lent_own p h
    obtain ⟨v, f1, f2⟩ := R.sl i av e1
    rw [e3] at f1
    cases f1
    obtain ⟨o, c⟩ := av
    cases o with
    | no => exact e2 rfl
    | own => obtain ⟨q, g1, _, g2, _⟩ := f2; cases g1; exact h1 g2
    | lent => obtain ⟨q, g1, _, g2, _⟩ := f2; cases g1; exact h2 g2
  -- flags stay
  have flag : ∀ (j : Nat) (av : AV), (putBack a rs as')[j]? = some (some av) → av.o ≠ .no → ∃ c, a[j]? = some (some ⟨av.o, c⟩) ∧ ((isOwn a j = true ∧ hasSlot j rs = true) ∨ c = av.c) := fun j av h ho => by
    by_cases hb : isOwn a j = true ∧ hasSlot j rs = true
    · have ho' := hb.1
      unfold isOwn at ho'
      have hk : ∃ k : Nat, rs[k]? = some (Res.slot j) := by
        have h2 := hb.2
        clear h hg rp ha hs hb P hl lent_own nolent
        induction rs with
        | nil => cases h2
        | cons r rs ih =>
          cases r with
          | slot m =>
            simp only [hasSlot, Bool.or_eq_true, beq_iff_eq] at h2
            rcases h2 with h2 | h2
            · exact ⟨0, by simp [h2]⟩
            · obtain ⟨k, hk⟩ := ih h2
              exact ⟨k + 1, by simpa using hk⟩
          | dat d => obtain ⟨k, hk⟩ := ih h2; exact ⟨k + 1, by simpa using hk⟩
          | new d => obtain ⟨k, hk⟩ := ih h2; exact ⟨k + 1, by simpa using hk⟩
      obtain ⟨k, hk⟩ := hk
      have go : ∀ o c, a[j]? = some (some ⟨o, c⟩) → o ≠ .no → ∃ c, a[j]? = some (some ⟨av.o, c⟩) ∧ ((isOwn a j = true ∧ hasSlot j rs = true) ∨ c = av.c) := fun o c e hne => by
        have hk2 : as[k]? = some ⟨.lent, c⟩ := by
          have hlt : k < as.length := by rw [hl]; exact (List.getElem?_eq_some_iff.mp hk).1
          obtain ⟨r, h1, h2⟩ := hg k as[k] (List.getElem?_eq_getElem hlt)
          rw [hk] at h1
          cases h1
          rw [List.getElem?_eq_getElem hlt]
          rcases avOf_slot h2 with ⟨c', e', z⟩ | ⟨o', c', e', hne', w, z⟩
          · rw [e] at e'; cases e'; exact absurd rfl hne
          · rw [e] at e'; cases e'; rw [z]
        obtain ⟨v, h5, h6⟩ := paired_get rp hk
        have hv : σ[j]? = some (some v) := h6
        obtain ⟨u, f1, f2⟩ := R.sl j _ e
        rw [hv] at f1
        cases f1
        obtain ⟨p, rfl⟩ : ∃ p, v = .ref p := by
          cases o with
          | no => exact absurd rfl hne
          | own => obtain ⟨q, g1, _⟩ := f2; exact ⟨q, g1⟩
          | lent => obtain ⟨q, g1, _⟩ := f2; exact ⟨q, g1⟩
        obtain ⟨c', q1, _, _⟩ := P.lent k c p hk2 h5
        have := putBack_at rs a as' k j o c _ hs hk e hne q1
        rw [h] at this
        cases this
        exact ⟨c, e, .inl hb⟩
      split at ho'
      · exact go _ _ (by assumption) (by simp)
      · exact go _ _ (by assumption) (by simp)
      · cases ho'
    · have hb' : isOwn a j = false ∨ hasSlot j rs = false := by
        cases h1 : isOwn a j with
        | false => exact .inl rfl
        | true =>
          cases h2 : hasSlot j rs with
          | false => exact .inr rfl
          | true => exact absurd ⟨h1, h2⟩ hb
      rw [putBack_other rs a as' j hb'] at h
      exact ⟨av.c, h, .inr rfl⟩
  refine ⟨P.ext, R.f0.trans P.f, fun p o h => ?_, fun p o h1 h2 => P.keep p o (R.keep p o h1 h2) (nolent p (by rw [h1]; exact fun z => by cases z) h2), fun p h => R.dom p (P.dom p h), R.lt, by rw [putBack_length]; exact R.len, fun j av h => ?_, fun i j ai aj p hij h1 h2 o1 o2 s1 s2 => ?_⟩
  · rcases P.new p o h with h | h | h
    · exact R.new p o h
    · exact .inr (.inl (R.dom p h))
    · exact .inr (.inr h)
  · by_cases hno : av.o = .no
    · -- data
      have hb : isOwn a j = false ∨ hasSlot j rs = false := by
        cases h1 : isOwn a j with
        | false => exact .inl rfl
        | true =>
          cases h2 : hasSlot j rs with
          | false => exact .inr rfl
          | true =>
            exfalso
            have h1' := h1
            unfold isOwn at h1'
            have hk : ∃ k : Nat, rs[k]? = some (Res.slot j) := by
              clear h hg rp ha hs P hl lent_own nolent flag
              induction rs with
              | nil => cases h2
              | cons r rs ih =>
                cases r with
                | slot m =>
                  simp only [hasSlot, Bool.or_eq_true, beq_iff_eq] at h2
                  rcases h2 with h2 | h2
                  · exact ⟨0, by simp [h2]⟩
                  · obtain ⟨k, hk⟩ := ih h2
                    exact ⟨k + 1, by simpa using hk⟩
                | dat d => obtain ⟨k, hk⟩ := ih h2; exact ⟨k + 1, by simpa using hk⟩
                | new d => obtain ⟨k, hk⟩ := ih h2; exact ⟨k + 1, by simpa using hk⟩
            obtain ⟨k, hk⟩ := hk
            have go : ∀ o c, a[j]? = some (some ⟨o, c⟩) → o ≠ .no → False := fun o c e hne => by
              have hk2 : as[k]? = some ⟨.lent, c⟩ := by
                have hlt : k < as.length := by rw [hl]; exact (List.getElem?_eq_some_iff.mp hk).1
                obtain ⟨r, h1, h2⟩ := hg k as[k] (List.getElem?_eq_getElem hlt)
                rw [hk] at h1
                cases h1
                rw [List.getElem?_eq_getElem hlt]
                rcases avOf_slot h2 with ⟨c', e', z⟩ | ⟨o', c', e', hne', w, z⟩
                · rw [e] at e'; cases e'; exact absurd rfl hne
                · rw [e] at e'; cases e'; rw [z]
              obtain ⟨v, h5, h6⟩ := paired_get rp hk
              have hv : σ[j]? = some (some v) := h6
              obtain ⟨u, f1, f2⟩ := R.sl j _ e
              rw [hv] at f1
              cases f1
              obtain ⟨p, rfl⟩ : ∃ p, v = .ref p := by
                cases o with
                | no => exact absurd rfl hne
                | own => obtain ⟨q, g1, _⟩ := f2; exact ⟨q, g1⟩
                | lent => obtain ⟨q, g1, _⟩ := f2; exact ⟨q, g1⟩
              obtain ⟨c', q1, _, _⟩ := P.lent k c p hk2 h5
              have := putBack_at rs a as' k j o c _ hs hk e hne q1
              rw [h] at this
              cases this
              exact hne hno
            split at h1'
            · exact go _ _ (by assumption) (by simp)
            · exact go _ _ (by assumption) (by simp)
            · cases h1'
      rw [putBack_other rs a as' j hb] at h
      obtain ⟨v, e1, q⟩ := R.sl j av h
      refine ⟨v, e1, ?_⟩
      obtain ⟨o, c⟩ := av
      obtain rfl : o = .no := hno
      exact Rep.mono P.f q
    · obtain ⟨c, e, hc⟩ := flag j av h hno
      obtain ⟨v, e1, q⟩ := R.sl j _ e
      obtain ⟨p, rfl⟩ : ∃ p, v = .ref p := by
        obtain ⟨o, c0⟩ := av
        cases o with
        | no => exact absurd rfl hno
        | own => obtain ⟨p, g1, _⟩ := q; exact ⟨p, g1⟩
        | lent => obtain ⟨p, g1, _⟩ := q; exact ⟨p, g1⟩
      refine ⟨.ref p, e1, ?_⟩
      have fin : F' p = none ∧ TopAt K F' H' p av.c := by
        by_cases hL : LentAt vs as p
        · obtain ⟨_, k, s, h3, h4, h5⟩ := lent_own p hL
          have hsj : s = j := by
            by_cases z : s = j
            · exact z
            · exfalso
              have fl : ∃ av : AV, a[s]? = some (some av) ∧ av.o ≠ .no := by
                unfold isOwn at h5
                split at h5
                · exact ⟨_, by assumption, by simp⟩
                · exact ⟨_, by assumption, by simp⟩
                · cases h5
              obtain ⟨b1, f1, g1⟩ := fl
              exact R.dis s j b1 _ p z f1 e g1 hno h4 e1
          subst hsj
          obtain ⟨k', c', h6, h7⟩ := hL
          obtain ⟨c'', q1, q2, q3⟩ := P.lent k' c' p h6 h7
          -- the place k' is the slot's too
          obtain ⟨r, h8, h9⟩ := hg k' _ h6
          obtain ⟨v', h10, h11⟩ := paired_get rp h8
          rw [h7] at h10
          cases h10
          cases r with
          | dat d => cases h9
          | new d => cases h9
          | slot s' =>
            have hs' : s' = s := by
              by_cases z : s' = s
              · exact z
              · exfalso
                have hv' : σ[s']? = some (some (.ref p)) := h11
                rcases avOf_slot h9 with ⟨c2, e2, y⟩ | ⟨o2, c2, e2, hne2, w, y⟩
                · cases y
                · exact R.dis s' s _ _ p z e2 e hne2 hno hv' e1
            subst hs'
            have := putBack_at rs a as' k' s' av.o c _ hs h8 e hno q1
            rw [h] at this
            have : av.c = c'' := congrArg AV.c (Option.some.inj (Option.some.inj this))
            rw [this]
            exact ⟨q2, q3⟩
        · have hc' : c = av.c := by
            rcases hc with ⟨h1, h2⟩ | hc
            · exfalso
              apply hL
              have hk : ∃ k : Nat, rs[k]? = some (Res.slot j) := by
                clear h hg rp ha hs P hl lent_own nolent flag hL h1
                induction rs with
                | nil => cases h2
                | cons r rs ih =>
                  cases r with
                  | slot m =>
                    simp only [hasSlot, Bool.or_eq_true, beq_iff_eq] at h2
                    rcases h2 with h2 | h2
                    · exact ⟨0, by simp [h2]⟩
                    · obtain ⟨k, hk⟩ := ih h2
                      exact ⟨k + 1, by simpa using hk⟩
                  | dat d => obtain ⟨k, hk⟩ := ih h2; exact ⟨k + 1, by simpa using hk⟩
                  | new d => obtain ⟨k, hk⟩ := ih h2; exact ⟨k + 1, by simpa using hk⟩
              obtain ⟨k, hk⟩ := hk
              refine ⟨k, c, ?_, ?_⟩
              · have hlt : k < as.length := by rw [hl]; exact (List.getElem?_eq_some_iff.mp hk).1
                obtain ⟨r, h1, h2⟩ := hg k as[k] (List.getElem?_eq_getElem hlt)
                rw [hk] at h1
                cases h1
                rw [List.getElem?_eq_getElem hlt]
                rcases avOf_slot h2 with ⟨c', e', z⟩ | ⟨o', c', e', hne', w, z⟩
                · rw [e] at e'; exact absurd (congrArg AV.o (Option.some.inj (Option.some.inj e'))) hno
                · rw [e] at e'
                  have e2 := congrArg AV.c (Option.some.inj (Option.some.inj e'))
                  rw [z]
                  exact congrArg (fun d => some (AV.mk .lent d)) e2.symm
              · obtain ⟨v, h5, h6⟩ := paired_get rp hk
                have hv : σ[j]? = some (some v) := h6
                rw [e1] at hv
                cases hv
                exact h5
            · exact hc
          subst hc'
          have t := (show OwnAt K E F H j (.ref p) ⟨av.o, av.c⟩ from q).top hno
          have f := (show OwnAt K E F H j (.ref p) ⟨av.o, av.c⟩ from q).fnone hno
          obtain ⟨o, t1, t2⟩ := t
          refine ⟨?_, o, P.keep p o t1 hL, t2.mono P.f⟩
          cases hF : F' p with
          | none => rfl
          | some u =>
            rcases P.new p u hF with z | z | ⟨xs, rfl⟩
            · rw [f] at z; cases z
            · rw [t1] at z; cases z
            · have y1 := P.ext p _ hF
              have y2 := P.keep p o t1 hL
              rw [y1] at y2
              cases y2
              cases t2
      obtain ⟨o, c0⟩ := av
      cases o with
      | no => exact absurd rfl hno
      | own => obtain ⟨p', g1, _, g2, _⟩ := q; cases g1; exact ⟨_, rfl, fin.1, g2, fin.2⟩
      | lent => obtain ⟨p', g1, _, g2, g3, _⟩ := q; cases g1; exact ⟨_, rfl, fin.1, g2, g3, fin.2⟩
  · obtain ⟨c1, e1, _⟩ := flag i ai h1 o1
    obtain ⟨c2, e2, _⟩ := flag j aj h2 o2
    exact R.dis i j _ _ p hij e1 e2 o1 o2 s1 s2
theorem ret_back (R : Rel K E F H σ a) {vs : List V} {rs : List Res} {as as' : List AV} {v : V} {r : AV} (P : Post K F H vs as F' H' as') (h : RetOk K H F' H' v r) (ho : ∀ p, Owned σ (putBack a rs as') p → H p ≠ none) :
    RepR K E F' H' σ (putBack a rs as') v (resOf r) := by
  obtain ⟨o, d⟩ := r
  have own : (∃ p, v = .ref p ∧ F' p = none ∧ H p = none ∧ TopAt K F' H' p d) → RepR K E F' H' σ (putBack a rs as') v (.new d) := fun ⟨p, e, h1, h2, h3⟩ => ⟨p, e, h1, R.dom p h2, h3, fun z => ho p z h2⟩
  cases o with
  | no => exact h
  | own => exact own h
  | lent => exact own h
end
end DS

namespace DS
open PySem PySem.Spec PyProof.Rows L2

/-! ### the call of a def -/
section
variable {X : Cx} {W : L2.St → XK} {e : Expr} {es : List Expr} {pos : Pos} {ws : WA} {la : TA} {k : Nat} {fa : Addr} {fd : FuncData} {ps : List Str} {spec : Spec} {x : Str} {p : Pos}
/-- a call, as it stands -/
@[irreducible] def callS (spec : DS.Spec) (as : List AV) (Q : AV → List AV → Prop) : Prop := spec as Q (fun _ _ => False)
theorem callS_i {spec : DS.Spec} {as : List AV} {Q : AV → List AV → Prop} (h : spec as Q (fun _ _ => False)) : callS spec as Q := by unfold callS; exact h
theorem callS_d {spec : DS.Spec} {as : List AV} {Q : AV → List AV → Prop} (h : callS spec as Q) : spec as Q (fun _ _ => False) := by unfold callS at h; exact h
def wCall (spec : Spec) (ws : WA) : WE := fun a q qe => ws a (fun rs a1 => onO (avsOf a1 rs) fun as => br (sep a1 rs) (callS spec as fun r as' => q (resOf r) (putBack a1 rs as')) False) qe
theorem putBack_flag : ∀ (rs : List Res) (a : PSt) (as : List AV) (j : Nat) (av : AV), (putBack a rs as)[j]? = some (some av) → ∃ c, a[j]? = some (some ⟨av.o, c⟩)
  | [], a, as, j, av, h => ⟨av.c, by cases as <;> exact h⟩
  | r :: rs, a, [], j, av, h => ⟨av.c, by cases r <;> exact h⟩
  | .dat d :: rs, a, x :: as, j, av, h => putBack_flag rs a as j av h
  | .new d :: rs, a, x :: as, j, av, h => putBack_flag rs a as j av h
  | .slot i :: rs, a, x :: as, j, av, h => by
    have go : ∀ o c c', a[i]? = some (some ⟨o, c⟩) → (∃ c, (a.set i (some ⟨o, c'⟩))[j]? = some (some ⟨av.o, c⟩)) → ∃ c, a[j]? = some (some ⟨av.o, c⟩) := fun o c c' e ⟨d, hd⟩ => by
      by_cases hij : i = j
      · subst hij
        rw [List.getElem?_set_self (List.getElem?_eq_some_iff.mp e).1] at hd
        have := congrArg AV.o (Option.some.inj (Option.some.inj hd))
        simp only at this
        exact ⟨c, by rw [e, this]⟩
      · rw [List.getElem?_set_ne hij] at hd
        exact ⟨d, hd⟩
    unfold putBack at h
    split at h
    · exact go _ _ _ (by assumption) (putBack_flag rs _ as j av h)
    · exact go _ _ _ (by assumption) (putBack_flag rs _ as j av h)
    · exact putBack_flag rs a as j av h
theorem se_call (G : FnOk X.prog X.w X.K X.mg X.base CX0 k fa fd ps (spOf X.K spec)) (hr : Room k X.A) (hg : Gl X x) (hm : X.mg x = some (.ref fa)) (hk : PySem.W.keepIn X.K (.ref fa) = true) (hb : Binds X.K fd ps []) (ha : SA X W (e :: es) la ws)
    (hdb : (x == ("__debug__" : Str)) = false := by decide) (he : starEach (e :: es) X.env = (false, eval e X.env) :: starEach es X.env := by rfl) (hpl : (backTo pos (starEach es X.env)).any (·.1) = false := by rfl) :
    SE X W (.Call (.Name x p) (e :: es) [] pos) (tCall (spOf X.K spec) [] E0 la) (wCall spec ws) := by
  obtain ⟨pa, s⟩ := ha
  refine ⟨pe_call G hr hg hm hk hb .nil pass0 pa hdb he hpl, fun E F H σ a Q q qe R hw l lx => ?_⟩
  refine s E F H σ a _ _ qe R hw (fun vs rs F1 H1 a1 e1 R1 rps hn hq => ?_) lx
  obtain ⟨as, hav, hq⟩ := onO_iff.mp hq
  obtain ⟨hs, hsp⟩ : sep a1 rs = true ∧ spec as (fun r as' => q (resOf r) (putBack a1 rs as')) (fun _ _ => False) := by
    cases e : sep a1 rs with
    | true => exact ⟨rfl, callS_d (br_tt hq e)⟩
    | false => exact (br_ff hq e).elim
  rw [List.append_nil]
  refine ⟨F1, as, _, _, args_ok R1 rps hs hav, hsp, fun r as' h v F' H' P ro => ?_, fun x as' h => h.elim⟩
  have R' := rel_back R1 rps hs hav P
  refine l v (resOf r) F' H' _ (e1.trans P.f) R' (ret_back R1 P ro fun b ⟨i, av, h1, h2, h3⟩ => ?_) h
  obtain ⟨c, e⟩ := putBack_flag rs a1 as' i av h1
  exact R1.owned_h ⟨i, _, e, h2, h3⟩
theorem se_call0 (G : FnOk X.prog X.w X.K X.mg X.base CX0 k fa fd ps (spOf X.K spec)) (hr : Room k X.A) (hg : Gl X x) (hm : X.mg x = some (.ref fa)) (hk : PySem.W.keepIn X.K (.ref fa) = true) (hb : Binds X.K fd ps [])
    (hdb : (x == ("__debug__" : Str)) = false := by decide) : SE X W (.Call (.Name x p) [] [] pos) (tCall (spOf X.K spec) [] E0 tNil) (wCall spec waNil) := by
  refine ⟨pe_call0 G hr hg hm hk hb .nil pass0 hdb, fun E F H σ a Q q qe R hw l lx => ?_⟩
  have hw : onO (avsOf a []) fun as => br (sep a []) (callS spec as fun r as' => q (resOf r) (putBack a [] as')) False := hw
  obtain ⟨as, hav, hq⟩ := onO_iff.mp hw
  obtain ⟨hs, hsp⟩ : sep a [] = true ∧ spec as (fun r as' => q (resOf r) (putBack a [] as')) (fun _ _ => False) := ⟨rfl, callS_d (br_tt hq rfl)⟩
  refine ⟨F, as, _, _, args_ok R (.nil : RepRs X.K E F H σ a [] []) hs hav, hsp, fun r as' h v F' H' P ro => ?_, fun x as' h => h.elim⟩
  have R' := rel_back R (.nil : RepRs X.K E F H σ a [] []) hs hav P
  refine l v (resOf r) F' H' _ P.f R' (ret_back R P ro fun b ⟨i, av, h1, h2, h3⟩ => ?_) h
  obtain ⟨c, e⟩ := putBack_flag [] a as' i av h1
  exact R.owned_h ⟨i, _, e, h2, h3⟩
end

/-! ### statements -/
structure EndsA where
  nx : PSt → Prop
  rt : AV → PSt → Prop
  bk : PSt → Prop
  ct : PSt → Prop
  ex : Exc → PSt → Prop
abbrev WS := EndsA → PSt → Prop
def RetR (K : PySem.W.Frag) (E : En) (F H : Hp) (v : V) (r : AV) : Prop := match r.o with
  | .no => Rep K F v r.c
  | _ => ∃ p, v = .ref p ∧ F p = none ∧ E.H p = none ∧ TopAt K F H p r.c
structure Lk (K : PySem.W.Frag) (E : En) (F : Hp) (D : Ends) (DA : EndsA) (W : L2.St → XK) : Prop where
  nx : ∀ σ F' H a, Same F F' → Rel K E F' H σ a → DA.nx a → D.nx σ H
  bk : ∀ σ F' H a, Same F F' → Rel K E F' H σ a → DA.bk a → D.bk σ H
  ct : ∀ σ F' H a, Same F F' → Rel K E F' H σ a → DA.ct a → D.ct σ H
  rt : ∀ σ F' H a v r, Same F F' → Rel K E F' H σ a → RetR K E F' H v r → DA.rt r a → D.rt v H
  ex : ∀ σ, Lx K E F σ DA.ex (W σ)
theorem Lk.to {K : PySem.W.Frag} {E : En} {F F' : Hp} {D : Ends} {DA : EndsA} {W : L2.St → XK} (l : Lk K E F D DA W) (e : Same F F') : Lk K E F' D DA W :=
  ⟨fun σ F2 H a e2 => l.nx σ F2 H a (e.trans e2), fun σ F2 H a e2 => l.bk σ F2 H a (e.trans e2), fun σ F2 H a e2 => l.ct σ F2 H a (e.trans e2), fun σ F2 H a v r e2 => l.rt σ F2 H a v r (e.trans e2), fun σ => (l.ex σ).to e⟩
def SS (X : Cx) (W : L2.St → XK) (st : Stmt) (t : TS) (w : WS) : Prop := PS X st t ∧ ∀ E F H σ a D DA, Rel X.K E F H σ a → w DA a → Lk X.K E F D DA W → t D σ H
def SSs (X : Cx) (W : L2.St → XK) (st : List Stmt) (t : TS) (w : WS) : Prop := PSs X st t ∧ ∀ E F H σ a D DA, Rel X.K E F H σ a → w DA a → Lk X.K E F D DA W → t D σ H
section
variable {X : Cx} {W : L2.St → XK} {st : Stmt} {rest : List Stmt} {t u : TS} {w1 w2 : WS} {e a b c : Expr} {pos : Pos} {ta tb : TE} {ua : TT} {w wk : WE} {wt : WT}
def wNext : WS := fun D a => D.nx a
def wSeq (w1 w2 : WS) : WS := fun D a => w1 { D with nx := w2 D } a
theorem sss_nil : SSs X W [] tNext wNext := ⟨pss_nil, fun E F H σ a D DA R h l => l.nx σ F H a (Same.refl F) R h⟩
theorem sss_cons (h1 : SS X W st t w1) (h2 : SSs X W rest u w2) : SSs X W (st :: rest) (tSeq t u) (wSeq w1 w2) := by
  refine ⟨pss_cons h1.1 h2.1, fun E F H σ a D DA R h l => h1.2 E F H σ a _ _ R h ⟨fun σ' F' H' a' e R' q => ?_, l.bk, l.ct, l.rt, l.ex⟩⟩
  exact h2.2 E F' H' σ' a' D DA R' q (l.to e)
theorem sss_one (h1 : SS X W st t w1) : SSs X W [st] t w1 := ⟨pss_one h1.1, h1.2⟩
theorem ss_pass : SS X W (.Pass pos) tNext wNext := ⟨ps_pass, fun E F H σ a D DA R h l => l.nx σ F H a (Same.refl F) R h⟩
def wBrk : WS := fun D a => D.bk a
def wCnt : WS := fun D a => D.ct a
theorem ss_break : SS X W (.Break pos) tBreak wBrk := ⟨ps_break, fun E F H σ a D DA R h l => l.bk σ F H a (Same.refl F) R h⟩
theorem ss_continue : SS X W (.Continue pos) tCont wCnt := ⟨ps_continue, fun E F H σ a D DA R h l => l.ct σ F H a (Same.refl F) R h⟩
theorem ss_doc {x j pos pos'} : SS X W (.Expr (.Constant (.str x) j pos) pos') tNext wNext := ⟨ps_doc, fun E F H σ a D DA R h l => l.nx σ F H a (Same.refl F) R h⟩
def wDrop (w : WE) : WS := fun D a => w a (fun _ a1 => D.nx a1) D.ex
theorem ss_expr (h : SE X W e ta w) (hs : swapsWith e none pos.line X.env = pure false := by rfl) : SS X W (.Expr e pos) (tDrop ta) (wDrop w) :=
  ⟨ps_expr h.1 hs, fun E F H σ a D DA R hw l => h.2 E F H σ a _ _ _ R hw (fun v r F' H' a' e R' rp q => l.nx σ F' H' a' e R' q) (l.ex σ)⟩
def retR (r : Res) (a : PSt) (k : AV → PSt → Prop) : Prop := match r with
  | .dat d => k ⟨.no, d⟩ a
  | .new d => k ⟨.own, d⟩ a
  | .slot i => match a[i]? with
    | some (some ⟨.no, c⟩) => k ⟨.no, c⟩ a
    | some (some ⟨.own, c⟩) => k ⟨.own, c⟩ a
    | _ => False
def wRet (w : WE) : WS := fun D a => w a (fun r a1 => retR r a1 D.rt) D.ex
theorem retR_ok {K : PySem.W.Frag} {E : En} {F H : Hp} {σ : L2.St} {a : PSt} {v : V} {r : Res} {k : AV → PSt → Prop} (R : Rel K E F H σ a) (h : RepR K E F H σ a v r) (c : retR r a k) : ∃ av, RetR K E F H v av ∧ k av a := by
  cases r with
  | dat d => exact ⟨⟨.no, d⟩, h, c⟩
  | new d => obtain ⟨p, e, h1, h2, h3, _⟩ := h; exact ⟨⟨.own, d⟩, ⟨p, e, h1, h2, h3⟩, c⟩
  | slot i =>
    have hv : σ[i]? = some (some v) := h
    simp only [retR] at c
    split at c
    · rename_i x e
      obtain ⟨u, e1, q⟩ := R.sl i _ e
      rw [hv] at e1
      cases e1
      exact ⟨⟨.no, x⟩, q, c⟩
    · rename_i x e
      obtain ⟨u, e1, q⟩ := R.sl i _ e
      rw [hv] at e1
      cases e1
      exact ⟨⟨.own, x⟩, q, c⟩
    · exact c.elim
theorem ss_ret (h : SE X W e ta w) : SS X W (.Return (some e) pos) (tRet ta) (wRet w) := by
  refine ⟨ps_ret h.1, fun E F H σ a D DA R hw l => h.2 E F H σ a _ _ _ R hw (fun v r F' H' a' e R' rp q => ?_) (l.ex σ)⟩
  obtain ⟨av, h1, h2⟩ := retR_ok R' rp q
  exact l.rt σ F' H' a' v av e R' h1 h2
def wRetN : WS := fun D a => D.rt ⟨.no, .non⟩ a
theorem ss_retN : SS X W (.Return none pos) tRetN wRetN := ⟨ps_retN, fun E F H σ a D DA R hw l => l.rt σ F H a .non ⟨.no, .non⟩ (Same.refl F) R (Rep.non) hw⟩
def wIf (wt : WT) (w1 w2 : WS) : WS := fun D a => wt a (fun b a1 => br b (w1 D a1) (w2 D a1)) D.ex
theorem ss_if {s1 s2 : List Stmt} (h : ST X W c ua wt) (h1 : SSs X W s1 t w1) (h2 : SSs X W s2 u w2) : SS X W (.If c s1 s2 pos) (tIfS ua t u) (wIf wt w1 w2) := by
  refine ⟨ps_if h.1 h1.1 h2.1, fun E F H σ a D DA R hw l => h.2 E F H σ a _ _ _ R hw (fun k F' H' a' e R' q => ?_) (l.ex σ)⟩
  cases k with
  | true => exact h1.2 E F' H' σ a' D DA R' (br_tt q rfl) (l.to e)
  | false => exact h2.2 E F' H' σ a' D DA R' (br_ff q rfl) (l.to e)
/-- what a name gets -/
def sto (i : Nat) (r : Res) (a : PSt) (k : PSt → Prop) : Prop := match r with
  | .dat d => k (a.set i (some ⟨.no, d⟩))
  | .new d => k (a.set i (some ⟨.own, d⟩))
  | .slot j => fz (.slot j) a fun d a1 => k (a1.set i (some ⟨.no, d⟩))
theorem sto_ok {K : PySem.W.Frag} {E : En} {F H : Hp} {σ : L2.St} {a : PSt} {v : V} {r : Res} {i : Nat} {k : PSt → Prop} (R : Rel K E F H σ a) (h : RepR K E F H σ a v r) (c : sto i r a k) :
    ∃ F' a', Same F F' ∧ Rel K E F' H (σ.set i (some v)) a' ∧ k a' := by
  cases r with
  | dat d => exact ⟨F, _, Same.refl F, R.setDat h, c⟩
  | new d =>
    obtain ⟨p, rfl, h1, h2, h3, h4⟩ := h
    exact ⟨F, _, Same.refl F, R.setNew h1 h2 h3 h4, c⟩
  | slot j =>
    have c' : fz (.slot j) a (fun d a1 => k (a1.set i (some ⟨.no, d⟩))) := c
    obtain ⟨F2, a2, d, s, R2, rp, hk⟩ := fz_ok R h c'
    exact ⟨F2, _, s, R2.setDat rp, hk⟩
def wSet (i : Nat) (w : WE) : WS := fun D a => w a (fun r a1 => sto i r a1 D.nx) D.ex
theorem ss_set {i : Nat} {x : Str} {pos' : Pos} (hN : X.N.Nodup) (hi : X.N[i]? = some x) (hx : Loc X.env.scope x) (h : SE X W e ta w) (hs : swapsWith e (some (.Name x pos')) pos.line X.env = pure false := by rfl) (hf : X.fn x = true ∨ X.env.scope.names.lookup x = some .local := by first | exact .inl rfl | exact .inr rfl | assumption) :
    SS X W (.Assign [.Name x pos'] e pos) (tAsg ta (gName i)) (wSet i w) := by
  refine ⟨ps_set hN hi hx h.1 hs hf, fun E F H σ a D DA R hw l => h.2 E F H σ a _ _ _ R hw (fun v r F' H' a' e R' rp q => ?_) (l.ex σ)⟩
  obtain ⟨F2, a2, s, R2, hk⟩ := sto_ok R' rp q
  exact l.nx _ F2 H' a2 (e.trans s) R2 hk
/-- targets -/
abbrev WG := D → PSt → (PSt → Prop) → Prop
abbrev WGs := List D → PSt → (PSt → Prop) → Prop
def Only (sl : List Nat) (σ σ' : L2.St) : Prop := σ'.length = σ.length ∧ ∀ j, j ∉ sl → σ'[j]? = σ[j]?
def SG (X : Cx) (tg : Expr) (g : TG) (wg : WG) (sl : List Nat) : Prop := PG X tg g ∧ ∀ E F H σ a v d Q q, Rel X.K E F H σ a → Rep X.K F v d → wg d a q → (∀ σ' a', Only sl σ σ' → Rel X.K E F H σ' a' → q a' → Q σ' H) → g v σ H Q
def SGs (X : Cx) (tg : List Expr) (g : TGs) (wg : WGs) (sl : List Nat) : Prop := PGs X tg g ∧ ∀ E F H σ a vs ds Q q, Rel X.K E F H σ a → Reps X.K F vs ds → wg ds a q → (∀ σ' a', Only sl σ σ' → Rel X.K E F H σ' a' → q a' → Q σ' H) → g vs σ H Q
theorem Only.refl (sl : List Nat) (σ : L2.St) : Only sl σ σ := ⟨rfl, fun _ _ => rfl⟩
theorem Only.trans {s1 s2 : List Nat} {σ σ1 σ2 : L2.St} (a : Only s1 σ σ1) (b : Only s2 σ1 σ2) : Only (s1 ++ s2) σ σ2 :=
  ⟨b.1.trans a.1, fun j h => (b.2 j fun z => h (List.mem_append_right _ z)).trans (a.2 j fun z => h (List.mem_append_left _ z))⟩
def wgName (i : Nat) : WG := fun d a q => q (a.set i (some ⟨.no, d⟩))
theorem sg_name {i : Nat} {x : Str} (hN : X.N.Nodup) (hi : X.N[i]? = some x) (hx : Loc X.env.scope x) (hf : X.fn x = true ∨ X.env.scope.names.lookup x = some .local := by first | exact .inl rfl | exact .inr rfl | assumption) : SG X (.Name x pos) (gName i) (wgName i) [i] :=
  ⟨pg_name hN hi hx hf, fun E F H σ a v d Q q R rp hw l => l _ _ ⟨List.length_set, fun j h => List.getElem?_set_ne (fun z => h (by simp [z]))⟩ (R.setDat rp) hw⟩
def wgNil : WGs := fun ds a q => match ds with
  | [] => q a
  | _ => False
def wgCons (g : WG) (gs : WGs) : WGs := fun ds a q => match ds with
  | d :: r => g d a fun a1 => gs r a1 q
  | [] => False
theorem sgs_nil : SGs X [] gNil wgNil [] := ⟨pgs_nil, fun E F H σ a vs ds Q q R rp hw l => by
  cases rp with
  | nil => exact ⟨rfl, l σ a (Only.refl _ _) R hw⟩
  | cons => exact hw.elim⟩
theorem sgs_cons {es : List Expr} {g : TG} {gs : TGs} {wg : WG} {wgs : WGs} {sl sl2 : List Nat} (h1 : SG X e g wg sl) (h2 : SGs X es gs wgs sl2) (hs : (assignEach (e :: es) X.env).map (·.2) = assign e X.env :: (assignEach es X.env).map (·.2) := by rfl) : SGs X (e :: es) (gCons g gs) (wgCons wg wgs) (sl ++ sl2) :=
  ⟨pgs_cons h1.1 h2.1 hs, fun E F H σ a vs ds Q q R rp hw l => by
    cases rp with
    | nil => exact hw.elim
    | cons r1 r2 => exact ⟨_, _, rfl, h1.2 E F H σ a _ _ _ _ R r1 hw fun σ' a' o1 R' hq => h2.2 E F H σ' a' _ _ _ _ R' r2 hq fun σ2 a2 o2 => l σ2 a2 (o1.trans o2)⟩⟩
def tupOf : D → Option (List D)
  | .tup xs => some xs
  | .rot xs => some xs
  | _ => none
def wgTup (n : Nat) (gs : WGs) : WG := fun d a q => onO (tupOf d) fun ds => ds.length = n ∧ gs ds a q
theorem sg_tup {es : List Expr} {k n : Nat} {gs : TGs} {wgs : WGs} {sl : List Nat} (hc : X.calm = true) (h : SGs X es gs wgs sl) (hn : (assignEach es X.env).length = n := by rfl) (hst : (assignEach es X.env).findIdx? (·.1) = none := by rfl) : SG X (.Tuple es k pos) (gTup X.K n gs) (wgTup n wgs) sl :=
  ⟨pg_tup hc h.1 hn hst, fun E F H σ a v d Q q R rp hw l => by
    obtain ⟨ds, hd, hl, hw1⟩ := onO_iff.mp (show onO (tupOf d) (fun ds => ds.length = n ∧ wgs ds a q) from hw)
    cases d with
    | tup xs => cases hd; cases rp with | tup hf r => exact ⟨_, _, rfl, .of (R.ext _ _ hf), by rw [r.length]; exact hl, h.2 E F H σ a _ _ Q q R r hw1 l⟩
    | rot xs => cases hd; cases rp with | rot hf r => exact ⟨_, _, rfl, same_seqT R.ext hf, by rw [r.length]; exact hl, h.2 E F H σ a _ _ Q q R r hw1 l⟩
    | _ => cases hd⟩
def wAsg (w : WE) (wg : WG) : WS := fun D a => w a (fun r a1 => fz r a1 fun d a2 => wg d a2 D.nx) D.ex
theorem ss_asg {tg : Expr} {g : TG} {wg : WG} {sl : List Nat} (h : SE X W e ta w) (hg : SG X tg g wg sl) (hs : swapsWithSole [tg] e pos.line X.env = pure false := by rfl) (hw : swappedStores [tg] e X.env = pure none := by rfl)
    (h1 : (assignEach [tg] X.env).map (·.2) = [assign tg X.env] := by rfl) : SS X W (.Assign [tg] e pos) (tAsg ta g) (wAsg w wg) := by
  refine ⟨ps_asg h.1 hg.1 hs hw h1, fun E F H σ a D DA R hw l => h.2 E F H σ a _ _ _ R hw (fun v r F' H' a' e R' rp q => ?_) (l.ex σ)⟩
  obtain ⟨F2, a2, d, s, R2, rp2, hk⟩ := fz_ok R' rp q
  exact hg.2 E F2 H' σ a2 v d _ _ R2 rp2 hk fun σ' a3 _ R3 hq => l.nx _ F2 H' a3 (e.trans s) R3 hq
/-- x op= e -/
def wAug (i : Nat) (op : DOp) (w : WE) : WS := fun D a => onS a[i]? fun _ => w a (fun r a1 => onO (con a1 (.slot i)) fun x => onO (con a1 r) fun y => op x y fun r2 => sto i r2 a1 D.nx) D.ex
theorem ss_aug {i : Nat} {x : Str} {o : Operator} {r : R2} {op : DOp} {pos' : Pos} (hN : X.N.Nodup) (hi : X.N[i]? = some x) (hx : Loc X.env.scope x) (h : SE X W e ta w) (ho : OpR X (inplaceOp o) r) (hs : OpS X.K r op) (hf : X.fn x = true ∨ X.env.scope.names.lookup x = some .local := by first | exact .inl rfl | exact .inr rfl | assumption) :
    SS X W (.AugAssign (.Name x pos') o e pos) (tAug i ta r) (wAug i op w) := by
  refine ⟨ps_aug hN hi hx h.1 ho hf, fun E F H σ a D DA R hw l => ?_⟩
  obtain ⟨av, ha, hw⟩ := onS_iff.mp hw
  obtain ⟨v, hv, _⟩ := R.sl i av ha
  refine ⟨v, hv, h.2 E F H σ a _ _ _ R hw (fun u r F' H' a' e R' rp q => ?_) (l.ex σ)⟩
  obtain ⟨x, c1, q⟩ := onO_iff.mp q
  obtain ⟨y, c2, hop⟩ := onO_iff.mp q
  have rv : RepR X.K E F' H' σ a' v (.slot i) := hv
  refine hs E F' H' σ a' v u x y _ _ R' (rd_of R' rv c1) (rd_of R' rp c2) hop fun z r2 F2 H2 s2 R2 rp2 hq => ?_
  obtain ⟨F3, a3, s3, R3, hk⟩ := sto_ok R2 rp2 hq
  exact l.nx _ F3 H2 a3 ((e.trans s2).trans s3) R3 hk
theorem ip_addA : OpR X (inplaceOp .Add) (fun x y H Q => rI0 (fun i j => .int (i + j)) x y H Q ∨ rAddS x y H Q) := iop_add.or iop_add_str
def dIAdd : DOp := fun x y k => match x, y with
  | .int i, .int j => k (.dat (.int (i + j)))
  | .str i, .str j => i.length + j.length ≤ sizeLine ∧ k (.dat (.str (i ++ j)))
  | _, _ => False
theorem dIAdd_ok {K : PySem.W.Frag} : OpS K (fun x y H Q => rI0 (fun i j => .int (i + j)) x y H Q ∨ rAddS x y H Q) dIAdd := by
  intro E F H σ a v1 v2 x y Q k R h1 h2 ho l
  unfold dIAdd at ho
  split at ho
  · exact .inl ⟨_, _, h1.int, h2.int, l _ (.dat _) F H (Same.refl F) R (Rep.int _) ho⟩
  · exact .inr ⟨_, _, h1.str, h2.str, ho.1, l _ (.dat _) F H (Same.refl F) R (Rep.str _) ho.2⟩
  · exact ho.elim
def dIMul : DOp := fun x y k => match x, y with | .int i, .int j => CMul i j ∧ k (.dat (.int (i * j))) | _, _ => False
theorem dIMul_ok {K : PySem.W.Frag} : OpS K (rI CMul fun i j => .int (i * j)) dIMul := OpS.int

/-! ### lists that a slot owns -/
/-- x.append(e) -/
def wApp (i : Nat) (w : WE) : WS := fun D a => onOwn a[i]? fun _ _ => w a (fun r a1 => fz r a1 fun d a2 => onOwn a2[i]? fun o xs => xs.length < sizeLine ∧ D.nx (a2.set i (some ⟨o, .lst (xs ++ [d])⟩))) D.ex
theorem slot_list {K : PySem.W.Frag} {E : En} {F H : Hp} {σ : L2.St} {a : PSt} (R : Rel K E F H σ a) {i : Nat} {o : Ow} {xs : List D} (h : a[i]? = some (some ⟨o, .lst xs⟩)) : ∃ p vs, σ[i]? = some (some (.ref p)) ∧ H p = some (.lst vs) ∧ Reps K F vs xs := by
  obtain ⟨v, e, q⟩ := R.sl i _ h
  have rv : RepR K E F H σ a v (.slot i) := e
  obtain ⟨p, vs, rfl, hp, r⟩ := (rd_of R rv (d := .lst xs) (by simp [con, h])).lst R.ext
  exact ⟨p, vs, e, hp, r⟩
theorem ss_append {i : Nat} {o : Expr} {apos cpos : Pos} (ho : PE X o (tVar i)) (h : SE X W e ta w) (hbase : attributeBase o "append" X.env (eval o X.env) = eval o X.env := by rfl)
    (hfew : ((backTo cpos (starEach [e] X.env)).all (fun x => !x.1) && (backToKw cpos (keywordEach [] X.env)).all (fun x => x.1.isSome) && decide (([e] : List Expr).length + ([] : List Keyword).length + (if ([] : List Keyword).isEmpty then 0 else 1) < 30)) = true := by rfl)
    (hline : (apos.endLine == cpos.line) = true := by rfl) (hst : starEach [e] X.env = (false, eval e X.env) :: starEach [] X.env := by rfl) (hplain : (backTo cpos (starEach [] X.env)).any (·.1) = false := by rfl)
    (hs : swapsWith (.Call (.Attribute o "append" apos) [e] [] cpos) none pos.line X.env = pure false := by rfl) :
    SS X W (.Expr (.Call (.Attribute o "append" apos) [e] [] cpos) pos) (tDrop (tBM X.K "list" rAppend (tVar i) (tCons ta tNil))) (wApp i w) := by
  refine ⟨ps_expr (pe_bm PySem.F.plainAttrs_list PySem.F.slot_list_append PySem.F.type_list_append mt_append ho (pa_cons h.1 pa_nil hst) hbase hfew hline hst hplain) hs, fun E F H σ a D DA R hw l => ?_⟩
  obtain ⟨o, xs, ha, _, hw⟩ := onOwn_iff.mp hw
  obtain ⟨p, vs, hv, hp, _⟩ := slot_list R ha
  refine ⟨.ref p, hv, .inl ⟨rfl, vs, .of hp⟩, h.2 E F H σ a _ _ _ R hw (fun u r F' H' a' e R' rp q => ?_) (l.ex σ)⟩
  obtain ⟨F2, a2, d, s, R2, rp2, q2⟩ := fz_ok R' rp q
  obtain ⟨o', ys, h2, ho', hz, hk⟩ := onOwn_iff.mp q2
  obtain ⟨p', ws, hv', hp', r'⟩ := slot_list R2 h2
  rw [hv] at hv'
  cases hv'
  refine ⟨p, ws, u, rfl, rfl, hp', by rw [r'.length]; exact hz, ?_⟩
  exact l.nx _ F2 _ _ (e.trans s) (R2.write h2 ho' hv (.lst (r'.append (.cons rp2 .nil)))) hk
/-- x.extend(e) -/
def wExt (i : Nat) (w : WE) : WS := fun D a => onOwn a[i]? fun _ _ => w a (fun r a1 => onLst (con a1 r) fun ys => onOwn a1[i]? fun o xs => xs.length + ys.length ≤ sizeLine ∧ D.nx (a1.set i (some ⟨o, .lst (xs ++ ys)⟩))) D.ex
theorem ss_extend {i : Nat} {o : Expr} {apos cpos : Pos} (ho : PE X o (tVar i)) (h : SE X W e ta w) (hbase : attributeBase o "extend" X.env (eval o X.env) = eval o X.env := by rfl)
    (hfew : ((backTo cpos (starEach [e] X.env)).all (fun x => !x.1) && (backToKw cpos (keywordEach [] X.env)).all (fun x => x.1.isSome) && decide (([e] : List Expr).length + ([] : List Keyword).length + (if ([] : List Keyword).isEmpty then 0 else 1) < 30)) = true := by rfl)
    (hline : (apos.endLine == cpos.line) = true := by rfl) (hst : starEach [e] X.env = (false, eval e X.env) :: starEach [] X.env := by rfl) (hplain : (backTo cpos (starEach [] X.env)).any (·.1) = false := by rfl)
    (hs : swapsWith (.Call (.Attribute o "extend" apos) [e] [] cpos) none pos.line X.env = pure false := by rfl) :
    SS X W (.Expr (.Call (.Attribute o "extend" apos) [e] [] cpos) pos) (tDrop (tBM X.K "list" rExtend (tVar i) (tCons ta tNil))) (wExt i w) := by
  refine ⟨ps_expr (pe_bm PySem.F.plainAttrs_list PySem.F.slot_list_extend PySem.F.type_list_extend mt_extend ho (pa_cons h.1 pa_nil hst) hbase hfew hline hst hplain) hs, fun E F H σ a D DA R hw l => ?_⟩
  obtain ⟨o, xs, ha, _, hw⟩ := onOwn_iff.mp hw
  obtain ⟨p, vs, hv, hp, _⟩ := slot_list R ha
  refine ⟨.ref p, hv, .inl ⟨rfl, vs, .of hp⟩, h.2 E F H σ a _ _ _ R hw (fun u r F' H' a' e R' rp q => ?_) (l.ex σ)⟩
  obtain ⟨ys, c, q⟩ := onLst_iff.mp q
  obtain ⟨o', zs, h2, ho', hz, hk⟩ := onOwn_iff.mp q
  obtain ⟨b, us, rfl, hb, rb⟩ := (rd_of R' rp c).lst R'.ext
  obtain ⟨p', ws, hv', hp', r'⟩ := slot_list R' h2
  rw [hv] at hv'
  cases hv'
  refine ⟨p, b, ws, us, rfl, rfl, hp', hb, by rw [r'.length, rb.length]; exact hz, ?_⟩
  exact l.nx _ F' _ _ e (R'.write h2 ho' hv (.lst (r'.append rb))) hk
/-- x[k] = e -/
def wSetIx (i : Nat) (wk w : WE) : WS := fun D a => w a (fun r a1 => fz r a1 fun d a2 => onS a2[i]? fun _ => wk a2 (fun rk a3 => onI (con a3 rk) fun j => onOwn a3[i]? fun o xs => onO (ixN xs.length j) fun n => D.nx (a3.set i (some ⟨o, .lst (xs.set n d)⟩))) D.ex) D.ex
theorem ss_setIx {i : Nat} {o : Expr} {p2 : Pos} (ho : PE X o (tVar i)) (hk : SE X W b tb wk) (h : SE X W e ta w) (hs : swapsWithSole [.Subscript o b p2] e pos.line X.env = pure false := by rfl) (hw : swappedStores [.Subscript o b p2] e X.env = pure none := by rfl)
    (h1 : (assignEach [.Subscript o b p2] X.env).map (·.2) = [assign (.Subscript o b p2) X.env] := by rfl)
    (hsub : ∀ v, assign (.Subscript o b p2) X.env v = (do let ov ← holding [v] (eval o X.env); let iv ← holding [v, ov] (eval b X.env); standAt p2; holding [v, ov, iv] (setItem ov iv v); release [v, ov, iv] []) := by intro _; rfl) :
    SS X W (.Assign [.Subscript o b p2] e pos) (tAsg ta (gSub (tVar i) tb rSetL)) (wSetIx i wk w) := by
  refine ⟨ps_asg h.1 (pg_sub ho hk.1 set_list hsub) hs hw h1, fun E F H σ a D DA R hw l => h.2 E F H σ a _ _ _ R hw (fun v r F' H' a' e R' rp q => ?_) (l.ex σ)⟩
  obtain ⟨F2, a2, d, s, R2, rp2, hq⟩ := fz_ok R' rp q
  obtain ⟨av, ha, hq⟩ := onS_iff.mp hq
  obtain ⟨vo, hv, _⟩ := R2.sl i av ha
  refine ⟨vo, hv, hk.2 E F2 H' σ a2 _ _ _ R2 hq (fun u rk F3 H3 a3 e3 R3 rp3 hq3 => ?_) ((l.ex σ).to (e.trans s))⟩
  obtain ⟨j, c, hq3⟩ := onI_iff.mp hq3
  obtain ⟨o, xs, h3, ho3, hq3⟩ := onOwn_iff.mp hq3
  obtain ⟨n, hn, hnx⟩ := onO_iff.mp hq3
  obtain rfl := (rd_of R3 rp3 c).int
  obtain ⟨p, ws, hv', hp', r'⟩ := slot_list R3 h3
  rw [hv] at hv'
  cases hv'
  refine ⟨p, ws, j, n, rfl, rfl, hp', by rw [r'.length]; exact hn, ?_⟩
  exact l.nx _ F3 _ _ ((e.trans s).trans e3) (R3.write h3 ho3 hv (.lst (Reps.set (rp2.mono e3) n r'))) hnx
/-- a list's item, by values, for x[k] op= e -/
theorem get_list : PGet X (rIxL X.K) := by
  intro pins s σ H o i ov iv Q I ro ri h
  obtain ⟨p, xs, k, z, rfl, rfl, hq, he, q⟩ := h
  cases ro
  obtain ⟨t, rfl⟩ := ri
  obtain ⟨its, r, pl, hz⟩ := I.list hq
  obtain ⟨j, h1, h2, h3, h4, h5⟩ := atI_get he
  obtain ⟨w, ew, rw'⟩ := r.get h2
  have hl := r.length
  have hn := line63
  have fin : EP X pins σ Q w s := ⟨z, H, I, rw', q⟩
  by_cases h0 : 0 ≤ k
  · have hj : k.toNat = j := by
      rw [seqIndex_of h0 h5] at h1
      exact Option.some.inj h1
    exact wpAny_getItem_list pl.isList h0 (by omega) (by rw [hj]; simpa using ew) fin
  · have hj : (k + (its.toArray.size : Int)).toNat = j := by
      rw [seqIndex_neg (by omega) h4] at h1
      rw [List.size_toArray, ← hl]
      exact Option.some.inj h1
    exact wpAny_getItem_list_neg pl.isList (by omega) (by rw [List.size_toArray] <;> omega) (by omega) (by rw [hj]; simpa using ew) fin
/-- x[k] op= e, of ints -/
def wAugIx (i : Nat) (g : Int → Int → Int) (wk w : WE) : WS := fun D a => onS a[i]? fun _ => wk a (fun rk a1 => onI (con a1 rk) fun j => onLst (con a1 (.slot i)) fun xs => onO (ixN xs.length j) fun n => onI xs[n]? fun y =>
  w a1 (fun r a2 => onI (con a2 r) fun z => onOwn a2[i]? fun o' xs' => onO (ixN xs'.length j) fun n' => D.nx (a2.set i (some ⟨o', .lst (xs'.set n' (.int (g y z)))⟩))) D.ex) D.ex
theorem slot_list' {K : PySem.W.Frag} {E : En} {F H : Hp} {σ : L2.St} {a : PSt} (R : Rel K E F H σ a) {i : Nat} {xs : List D} (h : con a (.slot i) = some (.lst xs)) : ∃ p vs, σ[i]? = some (some (.ref p)) ∧ H p = some (.lst vs) ∧ Reps K F vs xs := by
  simp only [con] at h
  split at h
  · rename_i av e
    obtain ⟨o, c⟩ := av
    cases h
    exact slot_list R e
  · cases h
theorem ss_augIx {i : Nat} {o : Expr} {p2 : Pos} {op : Operator} {g : Int → Int → Int} (ho : PE X o (tVar i)) (hk : SE X W b tb wk) (h : SE X W e ta w) (hop : OpR X (inplaceOp op) (rI0 fun i j => .int (g i j)))
    (ha : ∀ ov iv new, augStore b ov iv new = (do holding [new, ov, iv] (setItem ov iv new); release [new, ov, iv] []; pure .next) := by intros; rfl) :
    SS X W (.AugAssign (.Subscript o b p2) op e pos) (tAugS (tVar i) tb ta (rIxL X.K) (rI0 fun i j => .int (g i j)) rSetL) (wAugIx i g wk w) := by
  refine ⟨ps_augS ho hk.1 get_list h.1 hop set_list ha, fun E F H σ a D DA R hw l => ?_⟩
  obtain ⟨av, hav, hw⟩ := onS_iff.mp hw
  obtain ⟨vo, hv, _⟩ := R.sl i av hav
  refine ⟨vo, hv, hk.2 E F H σ a _ _ _ R hw (fun u rk F1 H1 a1 e1 R1 rp1 q1 => ?_) (l.ex σ)⟩
  obtain ⟨j, c, q1⟩ := onI_iff.mp q1
  obtain ⟨xs, h1, q1⟩ := onLst_iff.mp q1
  obtain ⟨n, hn, q1⟩ := onO_iff.mp q1
  obtain ⟨y, hy, hq⟩ := onI_iff.mp q1
  obtain rfl := (rd_of R1 rp1 c).int
  obtain ⟨p, ws, hv', hp', r'⟩ := slot_list' R1 h1
  rw [hv] at hv'
  cases hv'
  obtain ⟨vy, hvy, ry⟩ := r'.get' hy
  cases ry
  refine ⟨p, ws, j, .int y, rfl, rfl, .of hp', by unfold atI; rw [r'.length, hn]; exact hvy, ?_⟩
  refine h.2 E F1 H1 σ a1 _ _ _ R1 hq (fun u2 r2 F2 H2 a2 e2 R2 rp2 q2 => ?_) ((l.ex σ).to e1)
  obtain ⟨z, c2, q2⟩ := onI_iff.mp q2
  obtain ⟨o', xs', h2, ho', q2⟩ := onOwn_iff.mp q2
  obtain ⟨n', hn', hnx⟩ := onO_iff.mp q2
  obtain rfl := (rd_of R2 rp2 c2).int
  obtain ⟨p', ws', hv', hp', r'⟩ := slot_list R2 h2
  rw [hv] at hv'
  cases hv'
  refine ⟨y, z, rfl, rfl, p, ws', j, n', rfl, rfl, hp', by rw [r'.length]; exact hn', ?_⟩
  exact l.nx _ F2 _ _ (e1.trans e2) (R2.write h2 ho' hv (.lst (Reps.set (.int _) n' r'))) hnx
end
end DS

namespace DS
open PySem PySem.Spec PyProof.Rows L2

/-! ### what a loop walks -/
abbrev WI := PSt → (List D → PSt → Prop) → (Exc → PSt → Prop) → Prop
structure ItR (K : PySem.W.Frag) (F1 : Hp) (J : It) (items : List D) : Prop where
  go : ∀ i E σ a F H, Same F1 F → Rel K E F H σ a → i < items.length → J.go i H
  stop : ∀ E σ a F H, Same F1 F → Rel K E F H σ a → J.stop items.length H
  yld : ∀ (i : Nat) E σ a F H x H', Same F1 F → Rel K E F H σ a → i < items.length → J.yld i H x H' → ∃ F' d, Same F F' ∧ Rel K E F' H' σ a ∧ items[i]? = some d ∧ Rep K F' x d
def Li (K : PySem.W.Frag) (E : En) (F : Hp) (σ : L2.St) (q : List D → PSt → Prop) (R : It → Hp → Prop) : Prop :=
  ∀ J items F' H' a', Same F F' → Rel K E F' H' σ a' → ItR K F' J items → q items a' → R J H'
def SI (X : Cx) (W : L2.St → XK) (tg iter : Expr) (t : TI) (w : WI) : Prop := PI X tg iter t ∧ ∀ E F H σ a R q qe, Rel X.K E F H σ a → w a q qe → Li X.K E F σ q R → Lx X.K E F σ qe (W σ) → t σ H R
theorem itl_ok {K : PySem.W.Frag} {F1 : Hp} {p : Addr} {vs : List V} {ds : List D} (hs : SqL K F1 p vs) (r : Reps K F1 vs ds) (inj : ∀ E σ a F H, Same F1 F → Rel K E F H σ a → True) : ItR K F1 (Itl K p) ds where
  go := fun i E σ a F H e R hi => by
    have : i < vs.length := by rw [r.length]; exact hi
    exact ⟨vs, vs[i], R.ext.seq (e.seq hs), List.getElem?_eq_getElem this⟩
  stop := fun E σ a F H e R => ⟨vs, R.ext.seq (e.seq hs), Nat.le_of_eq r.length⟩
  yld := fun i E σ a F H x H' e R hi y => by
    obtain ⟨rfl, y⟩ := y
    obtain ⟨d, h1, h2⟩ := r.get (y vs (R.ext.seq (e.seq hs)))
    exact ⟨F, d, Same.refl F, R, h1, h2.mono e⟩
theorem itt_ok {K : PySem.W.Frag} {F1 : Hp} {p : Addr} {vs : List V} {ds : List D} (hs : SqT K F1 p vs) (r : Reps K F1 vs ds) : ItR K F1 (Itt K p) ds where
  go := fun i E σ a F H e R hi => by
    have : i < vs.length := by rw [r.length]; exact hi
    exact ⟨vs, vs[i], same_seqT R.ext (same_seqT e hs), List.getElem?_eq_getElem this⟩
  stop := fun E σ a F H e R => ⟨vs, same_seqT R.ext (same_seqT e hs), Nat.le_of_eq r.length⟩
  yld := fun i E σ a F H x H' e R hi y => by
    obtain ⟨rfl, y⟩ := y
    obtain ⟨d, h1, h2⟩ := r.get (y vs (same_seqT R.ext (same_seqT e hs)))
    exact ⟨F, d, Same.refl F, R, h1, h2.mono e⟩
def rangeD (lo : Int) (n : Nat) : List D := (List.range n).map fun (i : Nat) => D.int (lo + i)
theorem rangeD_len {lo : Int} {n : Nat} : (rangeD lo n).length = n := by simp [rangeD]
theorem rangeD_get {lo : Int} {n i : Nat} {d : D} : (rangeD lo n)[i]? = some d ↔ i < n ∧ d = .int (lo + i) := by
  unfold rangeD
  rw [List.getElem?_map]
  by_cases h : i < n
  · rw [List.getElem?_range h]
    simp [h, eq_comm]
  · rw [List.getElem?_eq_none (by simpa using h)]
    simp [h]
theorem itr_ok {K : PySem.W.Frag} {F1 : Hp} {lo : Int} {n : Nat} : ItR K F1 (Itr lo n) (rangeD lo n) where
  go := fun i E σ a F H e R hi => by
    have h : i < n := by rw [rangeD_len] at hi; exact hi
    exact h
  stop := fun E σ a F H e R => by
    show n ≤ _
    rw [rangeD_len]
    exact Nat.le_refl _
  yld := fun i E σ a F H x H' e R hi y => by
    obtain ⟨rfl, rfl⟩ := y
    exact ⟨F, .int (lo + i), Same.refl F, R, rangeD_get.mpr ⟨by rw [rangeD_len] at hi; exact hi, rfl⟩, .int _⟩
section
variable {X : Cx} {W : L2.St → XK} {tg l e a b c : Expr} {pos : Pos} {ta tb tl te : TE} {la : TA} {ua tt : TT} {w : WE} {ws : WA} {wt : WT} {t tb' : TS} {wb : WS} {g : TG} {wg : WG} {sl : List Nat} {iter : Expr} {ti : TI} {wi : WI}
def listOf : D → Option (List D)
  | .lst xs => some xs
  | .rol xs => some xs
  | _ => none
def wiSeq (w : WE) : WI := fun a q qe => w a (fun r a1 => fz r a1 fun d a2 => onO (listOf d) fun xs => q xs a2) qe
theorem si_list (h : SE X W l tl w) : SI X W tg l (iList X.K tl) (wiSeq w) := by
  refine ⟨pi_list h.1, fun E F H σ a R q qe Rl hw lk lx => h.2 E F H σ a _ _ _ Rl hw (fun v r F' H' a' e R' rp hq => ?_) lx⟩
  obtain ⟨F2, a2, d, s, R2, rp2, hk⟩ := fz_ok R' rp hq
  obtain ⟨xs, hd, hk⟩ := onO_iff.mp hk
  have hd : d = .lst xs ∨ d = .rol xs := by
    cases d <;> first
      | (cases hd; exact .inl rfl)
      | (cases hd; exact .inr rfl)
      | cases hd
  rcases hd with rfl | rfl
  · cases rp2 with
    | lst hf r => exact ⟨_, rfl, ⟨_, R2.ext.seq (.of hf)⟩, lk _ xs F2 H' a2 (e.trans s) R2 (itl_ok (.of hf) r fun _ _ _ _ _ _ _ => True.intro) hk⟩
  · cases rp2 with
    | rol hf r => exact ⟨_, rfl, ⟨_, R2.ext.seq hf⟩, lk _ xs F2 H' a2 (e.trans s) R2 (itl_ok hf r fun _ _ _ _ _ _ _ => True.intro) hk⟩
def wiTup (w : WE) : WI := fun a q qe => w a (fun r a1 => fz r a1 fun d a2 => onO (tupOf d) fun xs => q xs a2) qe
theorem si_tup (h : SE X W l tl w) : SI X W tg l (iTup X.K tl) (wiTup w) := by
  refine ⟨pi_tup h.1, fun E F H σ a R q qe Rl hw lk lx => h.2 E F H σ a _ _ _ Rl hw (fun v r F' H' a' e R' rp hq => ?_) lx⟩
  obtain ⟨F2, a2, d, s, R2, rp2, hk⟩ := fz_ok R' rp hq
  obtain ⟨xs, hd, hk⟩ := onO_iff.mp hk
  cases d with
  | tup ys => cases hd; cases rp2 with | tup hf r => exact ⟨_, rfl, ⟨_, same_seqT R2.ext (.of hf)⟩, lk _ xs F2 H' a2 (e.trans s) R2 (itt_ok (.of hf) r) hk⟩
  | rot ys => cases hd; cases rp2 with | rot hf r => exact ⟨_, rfl, ⟨_, same_seqT R2.ext hf⟩, lk _ xs F2 H' a2 (e.trans s) R2 (itt_ok hf r) hk⟩
  | _ => cases hd
theorem conts1 {a1 : PSt} {rs : List Res} {j : Int} {K : PySem.W.Frag} {E : En} {F H : Hp} {σ : L2.St} {vs : List V} (R : Rel K E F H σ a1) (rps : RepRs K E F H σ a1 vs rs) (c : conts a1 rs = some [.int j]) : vs = [.int j] := by
  have := conts_rd R rps c
  cases this with
  | cons h t => cases t; rw [h.int]
theorem conts2 {a1 : PSt} {rs : List Res} {i j : Int} {K : PySem.W.Frag} {E : En} {F H : Hp} {σ : L2.St} {vs : List V} (R : Rel K E F H σ a1) (rps : RepRs K E F H σ a1 vs rs) (c : conts a1 rs = some [.int i, .int j]) : vs = [.int i, .int j] := by
  have := conts_rd R rps c
  cases this with
  | cons h t => cases t with
    | cons h' t => cases t; rw [h.int, h'.int]
def wiRng1 (ws : WA) : WI := fun a q qe => ws a (fun rs a1 => on1 (conts a1 rs) fun j => (-(2 ^ 62) ≤ j ∧ j < 2 ^ 62) ∧ q (rangeD 0 j.toNat) a1) qe
theorem si_range1 {p : Pos} (hg : Gl X "range") (hm : X.mg "range" = none) (ha : SA X W [a] la ws) (hs : starEach [a] X.env = [(false, eval a X.env)] := by rfl) : SI X W tg (.Call (.Name "range" p) [a] [] pos) (iRng1 la) (wiRng1 ws) := by
  refine ⟨pi_range1 hg hm ha.1 hs, fun E F H σ a R q qe Rl hw lk lx => ha.2 E F H σ a _ _ _ Rl hw (fun vs rs F' H' a' e R' rps hn hq => ?_) lx⟩
  obtain ⟨j, c, ⟨h1, h2⟩, hk⟩ := on1_iff.mp hq
  exact ⟨j, conts1 R' rps c, h1, h2, lk _ _ F' H' a' e R' itr_ok hk⟩
def wiRng2 (ws : WA) : WI := fun a q qe => ws a (fun rs a1 => on2 (conts a1 rs) fun i j => (-(2 ^ 62) ≤ i ∧ i < 2 ^ 62 ∧ -(2 ^ 62) ≤ j ∧ j < 2 ^ 62) ∧ q (rangeD i (j - i).toNat) a1) qe
theorem si_range2 {p : Pos} (hg : Gl X "range") (hm : X.mg "range" = none) (ha : SA X W [a, b] la ws) (hs : starEach [a, b] X.env = [(false, eval a X.env), (false, eval b X.env)] := by rfl) (hs2 : starEach [b] X.env = [(false, eval b X.env)] := by rfl) : SI X W tg (.Call (.Name "range" p) [a, b] [] pos) (iRng2 la) (wiRng2 ws) := by
  refine ⟨pi_range2 hg hm ha.1 hs hs2, fun E F H σ a R q qe Rl hw lk lx => ha.2 E F H σ a _ _ _ Rl hw (fun vs rs F' H' a' e R' rps hn hq => ?_) lx⟩
  obtain ⟨i, j, c, h1, hk⟩ := on2_iff.mp hq
  exact ⟨i, j, conts2 R' rps c, h1, lk _ _ F' H' a' e R' itr_ok hk⟩
/-- a text's signs -/
def signsD (z : Str) : List D := z.cps.toList.map fun c => .str ⟨#[c]⟩

/-! ### for, while -/
/-- a loop, ready to be told its invariant -/
@[irreducible] def forS (items : List D) (wg : WG) (wb : WS) (D : EndsA) (a : PSt) : Prop := ∃ Inv : Nat → PSt → Prop, Inv 0 a ∧
  (∀ i a2 d, items[i]? = some d → Inv i a2 → wg d a2 fun a3 => wb { D with nx := Inv (i + 1), ct := Inv (i + 1), bk := D.nx } a3) ∧ ∀ a2, Inv items.length a2 → D.nx a2
theorem for_i {items : List D} {wg : WG} {wb : WS} {D : EndsA} {a : PSt} (Inv : Nat → PSt → Prop) (h0 : Inv 0 a)
    (hs : ∀ i a2 d, items[i]? = some d → Inv i a2 → wg d a2 fun a3 => wb { D with nx := Inv (i + 1), ct := Inv (i + 1), bk := D.nx } a3) (he : ∀ a2, Inv items.length a2 → D.nx a2) : forS items wg wb D a := by unfold forS; exact ⟨Inv, h0, hs, he⟩
theorem for_d {items : List D} {wg : WG} {wb : WS} {D : EndsA} {a : PSt} (h : forS items wg wb D a) : ∃ Inv : Nat → PSt → Prop, Inv 0 a ∧
  (∀ i a2 d, items[i]? = some d → Inv i a2 → wg d a2 fun a3 => wb { D with nx := Inv (i + 1), ct := Inv (i + 1), bk := D.nx } a3) ∧ ∀ a2, Inv items.length a2 → D.nx a2 := by unfold forS at h; exact h
/-- .. over a range -/
theorem for_r {lo : Int} {n : Nat} {wg : WG} {wb : WS} {D : EndsA} {a : PSt} (Inv : Nat → PSt → Prop) (h0 : Inv 0 a)
    (hs : ∀ i a2, i < n → Inv i a2 → wg (.int (lo + i)) a2 fun a3 => wb { D with nx := Inv (i + 1), ct := Inv (i + 1), bk := D.nx } a3) (he : ∀ a2, Inv n a2 → D.nx a2) : forS (rangeD lo n) wg wb D a := by
  refine for_i Inv h0 (fun i a2 d h hi => ?_) (fun a2 h => he a2 (by rw [rangeD_len] at h; exact h))
  obtain ⟨h1, rfl⟩ := rangeD_get.mp h
  exact hs i a2 h1 hi
def wFor (wi : WI) (wg : WG) (wb : WS) : WS := fun D a => wi a (fun items a1 => forS items wg wb D a1) D.ex
theorem ss_for {body : List Stmt} (hp : PassesOwn (model X.prog X.w) X.A X.env X.xe) (hc : X.calm = true) (hi : SI X W tg iter ti wi) (hg : SG X tg g wg sl) (hb : SSs X W body tb' wb) (hs : ∀ x, foldedSetIterable iter X.env x = pure x := by intro _; rfl) :
    SS X W (.For tg iter body [] pos) (tFor ti g tb') (wFor wi wg wb) := by
  refine ⟨ps_for hp hc hi.1 hg.1 hb.1 hs, fun E F H σ a D DA Rl hw l => hi.2 E F H σ a _ _ _ Rl hw (fun J items F1 H1 a1 e1 R1 it hq => ?_) (l.ex σ)⟩
  obtain ⟨Inv, h0, hst, hend⟩ := for_d hq
  refine ⟨fun i m σ' H' => m = items.length - i ∧ i ≤ items.length ∧ ∃ F2 a2, Same F1 F2 ∧ Rel X.K E F2 H' σ' a2 ∧ Inv i a2, ⟨_, rfl, Nat.zero_le _, F1, a1, Same.refl F1, R1, h0⟩, ?_⟩
  rintro i m σ' H' ⟨rfl, hi', F2, a2, s2, R2, hinv⟩
  by_cases hlt : i < items.length
  · refine .inr ⟨it.go i E σ' a2 F2 H' s2 R2 hlt, fun σ3 H3 => ∃ F3 a3, Same F1 F3 ∧ Rel X.K E F3 H3 σ3 a3 ∧ Inv (i + 1) a3, fun σ3 H3 ⟨F3, a3, s3, R3, h3⟩ => ⟨items.length - (i + 1), by omega, rfl, hlt, F3, a3, s3, R3, h3⟩, fun x H3 y => ?_⟩
    obtain ⟨F3, d, s3, R3, hd, rp⟩ := it.yld i E σ' a2 F2 H' x H3 s2 R2 hlt y
    refine hg.2 E F3 H3 σ' a2 x d _ _ R3 rp (hst i a2 d hd hinv) fun σ4 a4 _ R4 hq4 => hb.2 E F3 H3 σ4 a4 _ _ R4 hq4 ⟨fun σ5 F5 H5 a5 e5 R5 q5 => ?_, fun σ5 F5 H5 a5 e5 R5 q5 => ?_, fun σ5 F5 H5 a5 e5 R5 q5 => ?_, fun σ5 F5 H5 a5 v r e5 => ?_, fun σ5 => ?_⟩
    · exact ⟨F5, a5, (s2.trans s3).trans e5, R5, q5⟩
    · exact l.nx σ5 F5 H5 a5 (((e1.trans s2).trans s3).trans e5) R5 q5
    · exact ⟨F5, a5, (s2.trans s3).trans e5, R5, q5⟩
    · exact l.rt σ5 F5 H5 a5 v r (((e1.trans s2).trans s3).trans e5)
    · exact (l.ex σ5).to ((e1.trans s2).trans s3)
  · have e : i = items.length := by omega
    subst e
    exact .inl ⟨it.stop E σ' a2 F2 H' s2 R2, l.nx σ' F2 H' a2 (e1.trans s2) R2 (hend a2 hinv)⟩
@[irreducible] def whileS (wt : WT) (wb : WS) (D : EndsA) (a : PSt) : Prop := ∃ Inv : Nat → PSt → Prop, (∃ m, Inv m a) ∧ ∀ m a1, Inv m a1 → wt a1 (fun k a2 => br k (wb { D with nx := fun a3 => ∃ m', m' < m ∧ Inv m' a3, ct := fun a3 => ∃ m', m' < m ∧ Inv m' a3, bk := D.nx } a2) (D.nx a2)) D.ex
theorem while_i {wt : WT} {wb : WS} {D : EndsA} {a : PSt} (Inv : Nat → PSt → Prop) (m : Nat) (h0 : Inv m a)
    (hs : ∀ m a1, Inv m a1 → wt a1 (fun k a2 => br k (wb { D with nx := fun a3 => ∃ m', m' < m ∧ Inv m' a3, ct := fun a3 => ∃ m', m' < m ∧ Inv m' a3, bk := D.nx } a2) (D.nx a2)) D.ex) : whileS wt wb D a := by unfold whileS; exact ⟨Inv, ⟨m, h0⟩, hs⟩
theorem while_d {wt : WT} {wb : WS} {D : EndsA} {a : PSt} (h : whileS wt wb D a) : ∃ Inv : Nat → PSt → Prop, (∃ m, Inv m a) ∧ ∀ m a1, Inv m a1 → wt a1 (fun k a2 => br k (wb { D with nx := fun a3 => ∃ m', m' < m ∧ Inv m' a3, ct := fun a3 => ∃ m', m' < m ∧ Inv m' a3, bk := D.nx } a2) (D.nx a2)) D.ex := by unfold whileS at h; exact h
def wWhile (wt : WT) (wb : WS) : WS := fun D a => whileS wt wb D a
theorem ss_while {body : List Stmt} (hp : PassesOwn (model X.prog X.w) X.A X.env X.xe) (hc : ST X W c ua wt) (hb : SSs X W body tb' wb) : SS X W (.While c body [] pos) (tWhile ua tb') (wWhile wt wb) := by
  refine ⟨ps_while hp hc.1 hb.1, fun E F H σ a D DA R hw l => ?_⟩
  obtain ⟨Inv, ⟨m0, h0⟩, hst⟩ := while_d hw
  refine ⟨fun m σ' H' => ∃ F2 a2, Same F F2 ∧ Rel X.K E F2 H' σ' a2 ∧ Inv m a2, ⟨m0, F, a, Same.refl F, R, h0⟩, ?_⟩
  rintro m σ' H' ⟨F2, a2, s2, R2, hinv⟩
  refine hc.2 E F2 H' σ' a2 _ _ _ R2 (hst m a2 hinv) (fun k F3 H3 a3 e3 R3 q3 => ?_) ((l.ex σ').to s2)
  cases k with
  | false => exact l.nx σ' F3 H3 a3 (s2.trans e3) R3 (br_ff q3 rfl)
  | true =>
    refine ⟨fun σ4 H4 => ∃ m', m' < m ∧ ∃ F4 a4, Same F F4 ∧ Rel X.K E F4 H4 σ4 a4 ∧ Inv m' a4, fun σ4 H4 h => h, hb.2 E F3 H3 σ' a3 _ _ R3 (br_tt q3 rfl) ⟨fun σ5 F5 H5 a5 e5 R5 q5 => ?_, fun σ5 F5 H5 a5 e5 R5 q5 => ?_, fun σ5 F5 H5 a5 e5 R5 q5 => ?_, fun σ5 F5 H5 a5 v r e5 => ?_, fun σ5 => ?_⟩⟩
    · obtain ⟨m', h1, h2⟩ := q5
      exact ⟨m', h1, F5, a5, (s2.trans e3).trans e5, R5, h2⟩
    · exact l.nx σ5 F5 H5 a5 ((s2.trans e3).trans e5) R5 q5
    · obtain ⟨m', h1, h2⟩ := q5
      exact ⟨m', h1, F5, a5, (s2.trans e3).trans e5, R5, h2⟩
    · exact l.rt σ5 F5 H5 a5 v r ((s2.trans e3).trans e5)
    · exact (l.ex σ5).to (s2.trans e3)
end

/-! ### comprehensions -/
def wipeA (a : PSt) : List Nat → PSt
  | [] => a
  | v :: vs => (wipeA a vs).set v none
/-- behind a comprehension: the data that its names had ahead of it -/
def keepNo (a1 : PSt) : List Nat → PSt → PSt
  | [], a2 => a2
  | v :: vs, a2 => (keepNo a1 vs a2).set v (match a1[v]? with
    | some (some ⟨.no, c⟩) => some ⟨.no, c⟩
    | _ => none)
section
variable {K : PySem.W.Frag} {E : En} {F F' H H' : Hp} {σ : L2.St} {a : PSt}
theorem Rel.wipe (R : Rel K E F H σ a) : ∀ vs : List Nat, Rel K E F H (L2.wipe σ vs) (wipeA a vs)
  | [] => R
  | v :: vs => by unfold L2.wipe wipeA; exact (Rel.wipe R vs).forget v none
theorem wipeA_some {i : Nat} {av : AV} : ∀ {vs : List Nat}, (wipeA a vs)[i]? = some (some av) → a[i]? = some (some av) ∧ i ∉ vs
  | [], h => ⟨h, by simp⟩
  | v :: vs, h => by
    unfold wipeA at h
    by_cases hi : v = i
    · subst hi
      have hl := (List.getElem?_eq_some_iff.mp h).1
      rw [List.length_set] at hl
      rw [List.getElem?_set_self hl] at h
      cases h
    · rw [List.getElem?_set_ne hi] at h
      obtain ⟨h1, h2⟩ := wipeA_some h
      exact ⟨h1, fun m => by rcases List.mem_cons.mp m with e | e; exact hi e.symm; exact h2 e⟩
theorem wipeA_length : ∀ vs : List Nat, (wipeA a vs).length = a.length
  | [] => rfl
  | v :: vs => by unfold wipeA; rw [List.length_set, wipeA_length vs]
/-- a state that says less, over slots that agree where it says something -/
theorem Rel.less {σ' : L2.St} {a' : PSt} (R : Rel K E F H σ a) (hl : a'.length = σ'.length) (h : ∀ (i : Nat) (av : AV), a'[i]? = some (some av) → a[i]? = some (some av) ∧ σ'[i]? = σ[i]?) : Rel K E F H σ' a' :=
  ⟨R.ext, R.f0, R.new, R.keep, R.dom, R.lt, hl, fun i av e => by
    obtain ⟨h1, h2⟩ := h i av e
    rw [h2]
    exact R.sl i av h1, fun i j ai aj p hij ei ej oi oj si sj => by
    obtain ⟨h1, h2⟩ := h i ai ei
    obtain ⟨h3, h4⟩ := h j aj ej
    rw [h2] at si
    rw [h4] at sj
    exact R.dis i j ai aj p hij h1 h3 oi oj si sj⟩
theorem Rel.put (R : Rel K E F H σ a) {i : Nat} {x : Option AV} (h : x = none ∨ ∃ c u, x = some ⟨.no, c⟩ ∧ σ[i]? = some (some u) ∧ Rep K F u c) : Rel K E F H σ (a.set i x) := by
  have hno : ∀ (j : Nat) (aj : AV), (a.set i x)[j]? = some (some aj) → aj.o ≠ .no → j ≠ i := fun j aj e ho z => by
    subst z
    have hl := (List.getElem?_eq_some_iff.mp e).1
    rw [List.length_set] at hl
    rw [List.getElem?_set_self hl] at e
    rcases h with rfl | ⟨c, u, rfl, _⟩
    · cases e
    · cases e; exact ho rfl
  refine ⟨R.ext, R.f0, R.new, R.keep, R.dom, R.lt, by rw [List.length_set]; exact R.len, fun j av e => ?_, fun j k aj ak p hjk ej ek oj ok sj sk => ?_⟩
  · by_cases hj : j = i
    · subst hj
      have hl := (List.getElem?_eq_some_iff.mp e).1
      rw [List.length_set] at hl
      rw [List.getElem?_set_self hl] at e
      rcases h with rfl | ⟨c, u, rfl, h1, h2⟩
      · cases e
      · cases e; exact ⟨u, h1, h2⟩
    · rw [List.getElem?_set_ne (Ne.symm hj)] at e
      exact R.sl j av e
  · have nj := hno j aj ej oj
    have nk := hno k ak ek ok
    rw [List.getElem?_set_ne (Ne.symm nj)] at ej
    rw [List.getElem?_set_ne (Ne.symm nk)] at ek
    exact R.dis j k aj ak p hjk ej ek oj ok sj sk
theorem Rel.keepNo {F1 H1 : Hp} {a1 : PSt} (R1 : Rel K E F1 H1 σ a1) (e : Same F1 F) (R : Rel K E F H σ a) : ∀ vs : List Nat, Rel K E F H σ (DS.keepNo a1 vs a)
  | [] => R
  | v :: vs => by
    unfold DS.keepNo
    refine (Rel.keepNo R1 e R vs).put ?_
    split
    · rename_i c h
      obtain ⟨u, h1, h2⟩ := R1.sl v _ h
      exact .inr ⟨c, u, rfl, h1, Rep.mono e h2⟩
    · exact .inl rfl
/-- a new list is made on the side, at Dd -/
def En.side (E : En) (Dd : Addr) (o : HO) : En := { E with H := upd E.H Dd o }
theorem Rel.toSide (R : Rel K E F H σ a) {Dd : Addr} {o : HO} (hF : F Dd = none) (hE : E.H Dd = none) (hO : ¬ Owned σ a Dd) (hH : H Dd = some o) : Rel K (E.side Dd o) F H σ a := by
  have hL : ¬ E.L Dd := fun z => R.lt Dd z hE
  refine ⟨R.ext, R.f0, fun p u e => ?_, fun p u e l => ?_, fun p e => ?_, fun p l => ?_, R.len, fun i av e => ?_, R.dis⟩
  · rcases R.new p u e with z | z | z
    · exact .inl z
    · refine .inr (.inl ?_)
      show upd E.H Dd o p = none
      rw [upd_ne (ne_of_none e hF)]
      exact z
    · exact .inr (.inr z)
  · by_cases hp : p = Dd
    · subst hp
      have : upd E.H p o p = some u := e
      rw [upd_same] at this
      rw [hH]
      exact this
    · have e' : upd E.H Dd o p = some u := e
      rw [upd_ne hp] at e'
      exact R.keep p u e' l
  · show upd E.H Dd o p = none
    have hp : p ≠ Dd := fun z => by rw [z, hH] at e; cases e
    rw [upd_ne hp]
    exact R.dom p e
  · show upd E.H Dd o p ≠ none
    have hp : p ≠ Dd := fun z => hL (z ▸ l)
    rw [upd_ne hp]
    exact R.lt p l
  · obtain ⟨v, e1, q⟩ := R.sl i av e
    refine ⟨v, e1, ?_⟩
    obtain ⟨ow, c⟩ := av
    cases ow with
    | no => exact q
    | own =>
      obtain ⟨p, rfl, h1, h2, h3⟩ := q
      have hp : p ≠ Dd := fun z => hO ⟨i, _, e, by simp, by rw [e1, z]⟩
      refine ⟨p, rfl, h1, ?_, h3⟩
      show upd E.H Dd o p = none
      rw [upd_ne hp]
      exact h2
    | lent => exact q
theorem Rel.ofSide {Dd : Addr} {o : HO} (R : Rel K (E.side Dd o) F H σ a) (hE : E.H Dd = none) (hL : ¬ E.L Dd) (hF0 : E.F Dd = none) (ho : ∀ xs, o ≠ .tup xs := by intro _ z; cases z) : Rel K E F H σ a ∧ F Dd = none ∧ ¬ Owned σ a Dd ∧ H Dd = some o := by
  have sH : ∀ p, (E.side Dd o).H p = none → E.H p = none := fun p h => by
    have h' : upd E.H Dd o p = none := h
    by_cases hp : p = Dd
    · rw [hp]; exact hE
    · rw [upd_ne hp] at h'; exact h'
  have nD : (E.side Dd o).H Dd ≠ none := fun z => by
    have z' : upd E.H Dd o Dd = none := z
    rw [upd_same] at z'
    cases z'
  refine ⟨⟨R.ext, R.f0, fun p u e => ?_, fun p u e l => ?_, fun p e => sH p (R.dom p e), fun p l => ?_, R.len, fun i av e => ?_, R.dis⟩, ?_, fun ⟨i, av, h1, h2, h3⟩ => ?_, R.keep Dd o upd_same hL⟩
  · rcases R.new p u e with z | z | z
    · exact .inl z
    · exact .inr (.inl (sH p z))
    · exact .inr (.inr z)
  · refine R.keep p u ?_ l
    show upd E.H Dd o p = some u
    rw [upd_ne (ne_of_none e hE)]
    exact e
  · intro z
    have := R.lt p l
    apply this
    show upd E.H Dd o p = none
    rw [upd_ne (show p ≠ Dd from fun y => hL (by rw [← y]; exact l))]
    exact z
  · obtain ⟨v, e1, q⟩ := R.sl i av e
    refine ⟨v, e1, ?_⟩
    obtain ⟨ow, c⟩ := av
    cases ow with
    | no => exact q
    | own =>
      obtain ⟨p, rfl, h1, h2, h3⟩ := q
      exact ⟨p, rfl, h1, sH p h2, h3⟩
    | lent => exact q
  · cases e : F Dd with
    | none => rfl
    | some u =>
      rcases R.new Dd u e with z | z | ⟨xs, rfl⟩
      · have z' : E.F Dd = some u := z
        rw [hF0] at z'
        cases z'
      · exact absurd z nD
      · have y1 := R.ext Dd _ e
        have y2 := R.keep Dd o upd_same hL
        rw [y1] at y2
        cases y2
        exact absurd rfl (ho xs)
  · obtain ⟨v, e1, q⟩ := R.sl i av h1
    rw [h3] at e1
    cases e1
    obtain ⟨ow, c⟩ := av
    cases ow with
    | no => exact h2 rfl
    | own => obtain ⟨p, e2, _, h5, _⟩ := q; cases e2; exact nD h5
    | lent => obtain ⟨p, e2, _, h5, _⟩ := q; cases e2; exact hL h5
end
theorem wipe_only {σ σ2 : L2.St} {vs sl : List Nat} (h : Only sl (L2.wipe σ vs) σ2) (hs : ∀ j ∈ sl, j ∈ vs) : L2.wipe σ2 vs = L2.wipe σ vs := by
  have hw : ∀ (τ : L2.St) (ws : List Nat) (i : Nat), i ∈ ws → i < τ.length → (L2.wipe τ ws)[i]? = some none := by
    intro τ ws i
    induction ws with
    | nil => intro h; cases h
    | cons v ws ih =>
      intro h hl
      unfold L2.wipe
      by_cases hv : v = i
      · subst hv
        rw [List.getElem?_set_self (by rw [L2.wipe_length]; exact hl)]
      · rw [List.getElem?_set_ne hv]
        rcases List.mem_cons.mp h with e | e
        · exact absurd e.symm hv
        · exact ih e hl
  have hl : σ2.length = σ.length := by rw [h.1, L2.wipe_length]
  apply List.ext_getElem?
  intro i
  by_cases hi : i ∈ vs
  · by_cases hlt : i < σ.length
    · rw [hw σ2 vs i hi (by omega), hw σ vs i hi hlt]
    · rw [List.getElem?_eq_none (by rw [L2.wipe_length]; omega), List.getElem?_eq_none (by rw [L2.wipe_length]; omega)]
  · rw [L2.wipe_out hi, h.2 i fun z => hi (hs i z)]
def STs (X : Cx) (W : L2.St → XK) (ifs : List Expr) (t : TT) (w : WT) : Prop := PTs X ifs t ∧ ∀ E F H σ a Q q qe, Rel X.K E F H σ a → w a q qe → Lt X.K E F σ q Q → Lx X.K E F σ qe (W σ) → t σ H Q
def wtYes : WT := fun a q _ => q true a
abbrev W0 : L2.St → XK := fun _ _ _ _ => False
section
variable {X : Cx} {W : L2.St → XK} {c : Expr} {ua : TT} {wt : WT}
theorem sts_nil : STs X W [] tYes wtYes := ⟨pts_nil, fun E F H σ a Q q qe R hw l _ => l true F H a (Same.refl F) R hw⟩
theorem sts_one (h : ST X W c ua wt) : STs X W [c] ua wt := ⟨pts_one h.1, h.2⟩
end
/-- [e for x in xs if t]: Inv by the turn, the list so far, the state -/
@[irreducible] def lcS (items : List D) (vs : List Nat) (wg : WG) (wt : WT) (we : WE) (a1 : PSt) (q : Res → PSt → Prop) : Prop := ∃ Inv : Nat → List D → PSt → Prop, Inv 0 [] a1 ∧
  (∀ i acc a2 d, items[i]? = some d → Inv i acc a2 → wg d (wipeA a2 vs) fun a3 => wt a3 (fun b a4 => br b
    (we a4 (fun r a5 => fz r a5 fun y a6 => acc.length < sizeLine ∧ Inv (i + 1) (acc ++ [y]) (wipeA a6 vs)) (fun _ _ => False)) (Inv (i + 1) acc (wipeA a4 vs))) (fun _ _ => False)) ∧
  ∀ acc a2, Inv items.length acc a2 → q (.new (.lst acc)) (keepNo a1 vs a2)
theorem lc_d {items : List D} {vs : List Nat} {wg : WG} {wt : WT} {we : WE} {a1 : PSt} {q : Res → PSt → Prop} (h : lcS items vs wg wt we a1 q) : ∃ Inv : Nat → List D → PSt → Prop, Inv 0 [] a1 ∧
  (∀ i acc a2 d, items[i]? = some d → Inv i acc a2 → wg d (wipeA a2 vs) fun a3 => wt a3 (fun b a4 => br b
    (we a4 (fun r a5 => fz r a5 fun y a6 => acc.length < sizeLine ∧ Inv (i + 1) (acc ++ [y]) (wipeA a6 vs)) (fun _ _ => False)) (Inv (i + 1) acc (wipeA a4 vs))) (fun _ _ => False)) ∧
  ∀ acc a2, Inv items.length acc a2 → q (.new (.lst acc)) (keepNo a1 vs a2) := by unfold lcS at h; exact h
theorem lc_i {items : List D} {vs : List Nat} {wg : WG} {wt : WT} {we : WE} {a1 : PSt} {q : Res → PSt → Prop} (Inv : Nat → List D → PSt → Prop) (h0 : Inv 0 [] a1)
    (hs : ∀ i acc a2 d, items[i]? = some d → Inv i acc a2 → wg d (wipeA a2 vs) fun a3 => wt a3 (fun b a4 => br b
    (we a4 (fun r a5 => fz r a5 fun y a6 => acc.length < sizeLine ∧ Inv (i + 1) (acc ++ [y]) (wipeA a6 vs)) (fun _ _ => False)) (Inv (i + 1) acc (wipeA a4 vs))) (fun _ _ => False))
    (he : ∀ acc a2, Inv items.length acc a2 → q (.new (.lst acc)) (keepNo a1 vs a2)) : lcS items vs wg wt we a1 q := by unfold lcS; exact ⟨Inv, h0, hs, he⟩
def wLc (wi : WI) (vs : List Nat) (wg : WG) (wt : WT) (we : WE) : WE := fun a q qe => wi a (fun items a1 => lcS items vs wg wt we a1 q) qe
theorem lc_ok {K : PySem.W.Frag} {W : L2.St → XK} {ti : TI} {wi : WI} {g : TG} {wg : WG} {tt : TT} {wt : WT} {te : TE} {we : WE} {vs sl : List Nat}
    (hi : ∀ E F H σ a R q qe, Rel K E F H σ a → wi a q qe → Li K E F σ q R → Lx K E F σ qe (W σ) → ti σ H R)
    (hg : ∀ E F H σ a v d Q q, Rel K E F H σ a → Rep K F v d → wg d a q → (∀ σ' a', Only sl σ σ' → Rel K E F H σ' a' → q a' → Q σ' H) → g v σ H Q) (hsl : ∀ j ∈ sl, j ∈ vs)
    (ht : ∀ E F H σ a Q q qe, Rel K E F H σ a → wt a q qe → Lt K E F σ q Q → Lx K E F σ qe (W0 σ) → tt σ H Q)
    (he : ∀ E F H σ a Q q qe, Rel K E F H σ a → we a q qe → Ln K E F σ q Q → Lx K E F σ qe (W0 σ) → te σ H Q) :
    ∀ E F H σ a Q q qe, Rel K E F H σ a → wLc wi vs wg wt we a q qe → Ln K E F σ q Q → Lx K E F σ qe (W σ) → tLc ti g tt te vs σ H Q := by
  intro E F H σ a Q q qe R hw l lx
  refine hi E F H σ a _ _ _ R hw (fun J items F1 H1 a1 e1 R1 it hq => ?_) lx
  obtain ⟨Inv, h0, hst, hend⟩ := lc_d hq
  intro Dd hD
  obtain ⟨f1, f2, f3⟩ := R1.fresh hD
  have hL : ¬ E.L Dd := fun z => R1.lt Dd z f2
  have hF0 : E.F Dd = none := R1.f0.free f1
  refine ⟨fun i m H' => m = items.length - i ∧ i ≤ items.length ∧ ∃ F2 a2 accV acc, Same F1 F2 ∧ Rel K (E.side Dd (.lst accV)) F2 H' σ a2 ∧ Reps K F2 accV acc ∧ Inv i acc a2,
    ⟨_, rfl, Nat.zero_le _, F1, a1, [], [], Same.refl F1, (R1.lay (.lst []) hD).toSide f1 f2 f3 upd_same, .nil, h0⟩, ?_⟩
  rintro i m H' ⟨rfl, hi', F2, a2, accV, acc, s2, R2, racc, hinv⟩
  by_cases hlt : i < items.length
  · refine .inr ⟨it.go i _ σ a2 F2 H' s2 R2 hlt, fun H3 => ∃ F3 a3 accV acc, Same F1 F3 ∧ Rel K (E.side Dd (.lst accV)) F3 H3 σ a3 ∧ Reps K F3 accV acc ∧ Inv (i + 1) acc a3,
      fun H3 ⟨F3, a3, av, ac, s3, R3, r3, h3⟩ => ⟨items.length - (i + 1), by omega, rfl, hlt, F3, a3, av, ac, s3, R3, r3, h3⟩, fun x H3 y => ?_⟩
    obtain ⟨F3, d, s3, R3, hd, rp⟩ := it.yld i _ σ a2 F2 H' x H3 s2 R2 hlt y
    refine hg _ F3 H3 (L2.wipe σ vs) (wipeA a2 vs) x d _ _ (R3.wipe vs) rp (hst i acc a2 d hd hinv) fun σ4 a4 o4 R4 hq4 => ⟨wipe_only o4 hsl, ?_⟩
    have back : ∀ {F5 H5 : Hp} {a5 : PSt} {EE : En}, Rel K EE F5 H5 σ4 a5 → Rel K EE F5 H5 σ (wipeA a5 vs) := fun {F5 H5 a5 EE} R5 => by
      refine R5.less (by rw [wipeA_length, R5.len, o4.1, L2.wipe_length]) fun j av e => ?_
      obtain ⟨h1, h2⟩ := wipeA_some e
      refine ⟨h1, ?_⟩
      rw [o4.2 j fun z => h2 (hsl j z), L2.wipe_out h2]
    refine ht _ F3 H3 σ4 a4 _ _ _ R4 hq4 (fun b F5 H5 a5 e5 R5 q5 => ?_) (fun x a c dx F5 H5 _ _ _ z => z)
    cases b with
    | false =>
      rw [if_neg Bool.false_ne_true]
      exact ⟨F5, _, accV, acc, (s2.trans s3).trans e5, back R5, (racc.mono s3).mono e5, br_ff q5 rfl⟩
    | true =>
      rw [if_pos rfl]
      refine he _ F5 H5 σ4 a5 _ _ _ R5 (br_tt q5 rfl) (fun v r F6 H6 a6 e6 R6 rp6 q6 => ?_) (fun x a c dx F5 H5 _ _ _ z => z)
      obtain ⟨F7, a7, yd, s7, R7, rp7, hz, hinv'⟩ := fz_ok R6 rp6 q6
      have R8 := back R7
      obtain ⟨R9, g1, g2, g3⟩ := R8.ofSide f2 hL hF0
      have sAll : Same F3 F7 := (e5.trans e6).trans s7
      have racc' : Reps K F7 accV acc := (racc.mono s3).mono sAll
      refine ⟨accV, g3, by rw [racc'.length]; exact hz, F7, _, accV ++ [v], acc ++ [yd], (s2.trans s3).trans sAll, ?_, racc'.append (.cons rp7 .nil), hinv'⟩
      have R10 : Rel K E F7 (upd H6 Dd (.lst (accV ++ [v]))) σ (wipeA a7 vs) := by
        refine ⟨fun b u e => ?_, R9.f0, R9.new, fun b u e l' => ?_, fun b e => ?_, R9.lt, R9.len, fun j av e => ?_, R9.dis⟩
        · rw [upd_ne (ne_of_none e g1)]; exact R9.ext _ _ e
        · rw [upd_ne (ne_of_none e f2)]; exact R9.keep _ _ e l'
        · by_cases hb : b = Dd
          · rw [hb]; exact f2
          · rw [upd_ne hb] at e; exact R9.dom _ e
        · obtain ⟨u, e1', q⟩ := R9.sl j av e
          refine ⟨u, e1', ?_⟩
          have hne : ∀ p, u = .ref p → av.o ≠ .no → p ≠ Dd := fun p hp ho z => g2 ⟨j, av, e, ho, by rw [e1', hp, z]⟩
          obtain ⟨ow, cc⟩ := av
          cases ow with
          | no => exact q
          | own => obtain ⟨p, rfl, h1, h2, o, h3, h4⟩ := q; exact ⟨p, rfl, h1, h2, o, by rw [upd_ne (hne p rfl (by simp))]; exact h3, h4⟩
          | lent => obtain ⟨p, rfl, h1, h2, h5, o, h3, h4⟩ := q; exact ⟨p, rfl, h1, h2, h5, o, by rw [upd_ne (hne p rfl (by simp))]; exact h3, h4⟩
      exact R10.toSide g1 f2 g2 upd_same
  · have e : i = items.length := by omega
    subst e
    obtain ⟨R3, g1, g2, g3⟩ := R2.ofSide f2 hL hF0
    refine .inl ⟨it.stop _ σ a2 F2 H' s2 R2, ?_⟩
    have R4 := Rel.keepNo R1 s2 R3 vs
    refine l (.ref Dd) (.new (.lst acc)) F2 H' _ (e1.trans s2) R4 ⟨Dd, rfl, g1, f2, ⟨_, g3, .lst racc⟩, fun ⟨j, av, h1, h2, h3⟩ => ?_⟩ (hend acc a2 hinv)
    -- what keepNo owns, a2 owns
    have kn : ∀ (ws : List Nat) (j : Nat) (av : AV), (keepNo a1 ws a2)[j]? = some (some av) → av.o ≠ .no → a2[j]? = some (some av) := by
      intro ws
      induction ws with
      | nil => exact fun j av h _ => h
      | cons v ws ih =>
        intro j av h ho
        unfold keepNo at h
        by_cases hv : v = j
        · subst hv
          have hl := (List.getElem?_eq_some_iff.mp h).1
          rw [List.length_set] at hl
          rw [List.getElem?_set_self hl] at h
          split at h
          · cases h; exact absurd rfl ho
          · cases h
        · rw [List.getElem?_set_ne hv] at h
          exact ih j av h ho
    exact g2 ⟨j, av, kn vs j av h1 h2, h2, h3⟩
/-! the reading that a word itself tells: it hangs on K alone -/
def tE (K : PySem.W.Frag) (W : L2.St → XK) (w : WE) : TE := fun σ H Q => ∃ E F a q qe, Rel K E F H σ a ∧ w a q qe ∧ Ln K E F σ q Q ∧ Lx K E F σ qe (W σ)
def tT (K : PySem.W.Frag) (W : L2.St → XK) (w : WT) : TT := fun σ H Q => ∃ E F a q qe, Rel K E F H σ a ∧ w a q qe ∧ Lt K E F σ q Q ∧ Lx K E F σ qe (W σ)
def gG (K : PySem.W.Frag) (wg : WG) (sl : List Nat) : TG := fun v σ H Q => ∃ E F a d q, Rel K E F H σ a ∧ Rep K F v d ∧ wg d a q ∧ ∀ σ' a', Only sl σ σ' → Rel K E F H σ' a' → q a' → Q σ' H
theorem SE.own {X : Cx} {W : L2.St → XK} {e : Expr} {t : TE} {w : WE} (h : SE X W e t w) : PE X e (tE X.K W w) :=
  ⟨fun pins s σ H Q I ⟨E, F, a, q, qe, R, hw, l, lx⟩ => h.1.run pins s σ H Q I (h.2 E F H σ a Q q qe R hw l lx)⟩
theorem STs.own {X : Cx} {W : L2.St → XK} {es : List Expr} {t : TT} {w : WT} (h : STs X W es t w) : PTs X es (tT X.K W w) :=
  ⟨fun pins s σ H Q I ⟨E, F, a, q, qe, R, hw, l, lx⟩ => h.1.run pins s σ H Q I (h.2 E F H σ a Q q qe R hw l lx)⟩
theorem SG.own {X : Cx} {e : Expr} {g : TG} {wg : WG} {sl : List Nat} (h : SG X e g wg sl) : PG X e (gG X.K wg sl) :=
  ⟨fun pins s σ H v u Q I r ⟨E, F, a, d, q, R, rp, hw, l⟩ => h.1.run pins s σ H v u Q I r (h.2 E F H σ a v d Q q R rp hw l)⟩
section
variable {X : Cx} {W : L2.St → XK}
theorem se_lc {elt tg iter : Expr} {ifs : List Expr} {scope : Scope} {own : List (Str × Nat)} {pos : Pos} {ti : TI} {wi : WI} {wg : WG} {wt : WT} {we : WE} {sl : List Nat} (hc : X.calm = true) (hN : X.N.Nodup) (hi : SI X W tg iter ti wi) (ok : BlkOk X.N X.env.scope scope own)
    (hg : ∀ (s : Shared) (H : Hp) (C : Addr) (cl : List (Str × Addr)) (fp : List Addr), ∃ g, SG (X.blk s H scope (compEnvC scope cl C X.env) fp) tg g wg sl) (hsl : ∀ j ∈ sl, j ∈ own.map (·.2))
    (ht : ∀ (s : Shared) (H : Hp) (C : Addr) (cl : List (Str × Addr)) (fp : List Addr), ∃ t, STs (X.blk s H scope (compEnvC scope cl C X.env) fp) W0 ifs t wt)
    (he : ∀ (s : Shared) (H : Hp) (C : Addr) (cl : List (Str × Addr)) (fp : List Addr), ∃ t, SE (X.blk s H scope (compEnvC scope cl C X.env) fp) W0 elt t we) (hs : ∀ x, foldedSetIterable iter X.env x = pure x := by intro _; rfl) :
    SE X W (.ListComp elt [⟨tg, iter, ifs, 0⟩] scope pos) (tLc ti (gG X.K wg sl) (tT X.K W0 wt) (tE X.K W0 we) (own.map (·.2))) (wLc wi (own.map (·.2)) wg wt we) :=
  ⟨pe_lc hc hN hi.1 ok (fun s H C cl fp => let ⟨_, h⟩ := hg s H C cl fp; h.own) (fun s H C cl fp => let ⟨_, h⟩ := ht s H C cl fp; h.own) (fun s H C cl fp => let ⟨_, h⟩ := he s H C cl fp; h.own) hs,
    lc_ok hi.2 (fun E F H σ a v d Q q R rp hw l => ⟨E, F, a, d, q, R, rp, hw, l⟩) hsl (fun E F H σ a Q q qe R hw l lx => ⟨E, F, a, q, qe, R, hw, l, lx⟩) (fun E F H σ a Q q qe R hw l lx => ⟨E, F, a, q, qe, R, hw, l, lx⟩)⟩
theorem ss_setLc {i : Nat} {y : Str} {py : Pos} {elt tg iter : Expr} {ifs : List Expr} {scope : Scope} {own : List (Str × Nat)} {pos spos : Pos} {ti : TI} {wi : WI} {wg : WG} {wt : WT} {we : WE} {sl : List Nat} (hc : X.calm = true) (hN : X.N.Nodup) (hy : X.N[i]? = some y) (hyl : X.env.scope.names.lookup y = some .local)
    (hsw : swapsWith (.ListComp elt [⟨tg, iter, ifs, 0⟩] scope pos) (some (.Name y py)) spos.line X.env = pure true) (hi : SI X W tg iter ti wi) (ok : BlkOk X.N X.env.scope scope own)
    (hg : ∀ (s : Shared) (H : Hp) (C : Addr) (cl : List (Str × Addr)) (fp : List Addr), ∃ g, SG (X.blk s H scope (compEnvC scope cl C X.env) fp) tg g wg sl) (hsl : ∀ j ∈ sl, j ∈ own.map (·.2))
    (ht : ∀ (s : Shared) (H : Hp) (C : Addr) (cl : List (Str × Addr)) (fp : List Addr), ∃ t, STs (X.blk s H scope (compEnvC scope cl C X.env) fp) W0 ifs t wt)
    (he : ∀ (s : Shared) (H : Hp) (C : Addr) (cl : List (Str × Addr)) (fp : List Addr), ∃ t, SE (X.blk s H scope (compEnvC scope cl C X.env) fp) W0 elt t we) (hs : ∀ x, foldedSetIterable iter X.env x = pure x := by intro _; rfl) :
    SS X W (.Assign [.Name y py] (.ListComp elt [⟨tg, iter, ifs, 0⟩] scope pos) spos) (tAsg (tLc ti (gG X.K wg sl) (tT X.K W0 wt) (tE X.K W0 we) (own.map (·.2))) (gName i)) (wSet i (wLc wi (own.map (·.2)) wg wt we)) := by
  refine ⟨ps_setLc hc hN hy hyl hsw hi.1 ok (fun s H C cl fp => let ⟨_, h⟩ := hg s H C cl fp; h.own) (fun s H C cl fp => let ⟨_, h⟩ := ht s H C cl fp; h.own) (fun s H C cl fp => let ⟨_, h⟩ := he s H C cl fp; h.own) hs, fun E F H σ a D DA R hw l => ?_⟩
  refine lc_ok (W := W) hi.2 (fun E F H σ a v d Q q R rp hw l => ⟨E, F, a, d, q, R, rp, hw, l⟩) hsl (fun E F H σ a Q q qe R hw l lx => ⟨E, F, a, q, qe, R, hw, l, lx⟩) (fun E F H σ a Q q qe R hw l lx => ⟨E, F, a, q, qe, R, hw, l, lx⟩) E F H σ a _ _ _ R hw (fun v r F' H' a' e R' rp q => ?_) (l.ex σ)
  obtain ⟨F2, a2, s, R2, hk⟩ := sto_ok R' rp q
  exact l.nx _ F2 H' a2 (e.trans s) R2 hk
end

/-! ### a def -/
def initA (n : Nat) (as : List AV) : PSt := as.map some ++ List.replicate (n - as.length) none
def outs : List AV → PSt → Option (List AV)
  | [], _ => some []
  | ⟨.lent, _⟩ :: as, x :: a => match x with
    | some ⟨.lent, c⟩ => (outs as a).map (⟨.lent, c⟩ :: ·)
    | _ => none
  | av :: as, _ :: a => (outs as a).map (av :: ·)
  | _ :: _, [] => none
theorem outs_at : ∀ {as : List AV} {a : PSt} {as' : List AV} {k : Nat} {c : D}, outs as a = some as' → as[k]? = some ⟨.lent, c⟩ → ∃ c', as'[k]? = some ⟨.lent, c'⟩ ∧ a[k]? = some (some ⟨.lent, c'⟩)
  | [], _, _, _, _, _, h => by simp at h
  | ⟨o, _⟩ :: _, [], _, _, _, h, _ => by cases o <;> cases h
  | ⟨o, d⟩ :: as, x :: a, as', 0, c, h, hk => by
    simp at hk
    obtain ⟨rfl, rfl⟩ := hk
    unfold outs at h
    split at h
    · obtain ⟨r, h1, rfl⟩ := Option.map_eq_some_iff.mp h
      exact ⟨_, rfl, rfl⟩
    · cases h
  | ⟨o, d⟩ :: as, x :: a, as', k + 1, c, h, hk => by
    simp at hk
    have go : ∀ (av : AV), (outs as a).map (av :: ·) = some as' → ∃ c', as'[k + 1]? = some ⟨.lent, c'⟩ ∧ (x :: a)[k + 1]? = some (some ⟨.lent, c'⟩) := fun av h => by
      obtain ⟨r, h1, rfl⟩ := Option.map_eq_some_iff.mp h
      obtain ⟨c', q1, q2⟩ := outs_at h1 hk
      exact ⟨c', by simpa using q1, by simpa using q2⟩
    cases o with
    | no => exact go _ h
    | own => exact go _ h
    | lent =>
      unfold outs at h
      split at h
      · exact go _ h
      · cases h
theorem entry_rel {K : PySem.W.Frag} {F H : Hp} {vs : List V} {as : List AV} {N : List Str} (A : ArgsOk K F H vs as) (hN : as.length ≤ N.length) : Rel K ⟨F, H, LentAt vs as, vs⟩ F H (start N vs) (initA N.length as) := by
  have ga : ∀ (i : Nat) (av : AV), (initA N.length as)[i]? = some (some av) → as[i]? = some av := fun i av h => by
    unfold initA at h
    by_cases hi : i < as.length
    · rw [List.getElem?_append_left (by simpa using hi), List.getElem?_map] at h
      cases e : as[i]? with
      | none => rw [e] at h; cases h
      | some x => rw [e] at h; cases h; rfl
    · rw [List.getElem?_append_right (by simpa using hi), List.getElem?_replicate] at h
      split at h <;> cases h
  have gv : ∀ (i : Nat) (v : V), vs[i]? = some v → (start N vs)[i]? = some (some v) := fun i v h => by
    unfold L2.start
    have hi := (List.getElem?_eq_some_iff.mp h).1
    rw [List.getElem?_append_left (by simpa using hi), List.getElem?_map, h]
    rfl
  refine ⟨A.ext, Same.refl F, fun p o e => .inl e, fun p o e _ => e, fun p e => e, fun p l => ?_, ?_, fun i av h => ?_, fun i j ai aj p hij hi hj oi oj si sj => ?_⟩
  · obtain ⟨k, c, h1, h2⟩ := l
    obtain ⟨v, h3, _, h4⟩ := A.at_ k _ h1
    obtain ⟨_, q, h5, _, o, h6, _⟩ := h4 (by simp)
    rw [h2, h5] at h3
    cases h3
    show H p ≠ none
    rw [h6]
    exact fun z => by cases z
  · unfold initA L2.start
    rw [List.length_append, List.length_map, List.length_replicate, List.length_append, List.length_map, List.length_replicate, A.len]
  · have h1 := ga i av h
    obtain ⟨v, h2, h3, h4⟩ := A.at_ i av h1
    refine ⟨v, gv i v h2, ?_⟩
    obtain ⟨o, c⟩ := av
    cases o with
    | no => exact h3 rfl
    | own => exact absurd (h4 (by simp)).1 (by simp)
    | lent =>
      obtain ⟨_, p, rfl, h5, h6⟩ := h4 (by simp)
      exact ⟨p, rfl, h5, ⟨i, c, h1, h2⟩, h2, h6⟩
  · obtain ⟨v1, a1, _⟩ := A.at_ i ai (ga i ai hi)
    obtain ⟨v2, a2, _⟩ := A.at_ j aj (ga j aj hj)
    have b1 := gv i v1 a1
    have b2 := gv j v2 a2
    rw [si] at b1
    rw [sj] at b2
    cases b1
    cases b2
    exact A.dis i j ai aj p hij (ga i ai hi) (ga j aj hj) oi oj a1 a2
/-- what the body's ends must be, for a caller who wants Q -/
def endsOf (as : List AV) (Q : AV → List AV → Prop) (Qe : Exc → List AV → Prop) : EndsA where
  nx := fun a => ∃ as', outs as a = some as' ∧ Q ⟨.no, .non⟩ as'
  rt := fun r a => ∃ as', outs as a = some as' ∧ Q r as'
  bk := fun _ => False
  ct := fun _ => False
  ex := fun x a => ∃ as', outs as a = some as' ∧ Qe x as'
/-- .. where nothing is raised -/
def ends0 (as : List AV) (Q : AV → List AV → Prop) : EndsA where
  nx := fun a => onO (outs as a) fun as' => Q ⟨.no, .non⟩ as'
  rt := fun r a => onO (outs as a) fun as' => Q r as'
  bk := fun _ => False
  ct := fun _ => False
  ex := fun _ _ => False
theorem post_of {K : PySem.W.Frag} {F H F' H' : Hp} {vs : List V} {as as' : List AV} {σ : L2.St} {a : PSt} (A : ArgsOk K F H vs as) (R : Rel K ⟨F, H, LentAt vs as, vs⟩ F' H' σ a) (ho : outs as a = some as') : Post K F H vs as F' H' as' := by
  refine ⟨R.f0, R.ext, R.new, R.keep, R.dom, fun k c p h1 h2 => ?_⟩
  obtain ⟨c', q1, q2⟩ := outs_at ho h1
  obtain ⟨v, e1, b, e2, h3, _, h4, h5⟩ := R.sl k _ q2
  subst e2
  have h4' : vs[k]? = some (.ref b) := h4
  rw [h2] at h4'
  cases h4'
  exact ⟨c', q1, h3, h5⟩
section
variable {P : Program} {w : World} {K : PySem.W.Frag} {mg : Str → Option Value} {base : Heap}
/-- THE RULE for a def that lets no exception out -/
theorem ok_def {x qual : Str} {st : Stmt} {f : Addr} {fd : FuncData} {N ps : List Str} {k : Nat} {spec : Spec} {wb : WS} (F : Fun K x qual st f fd) (S : FnScope N ps (defScope st)) (har : ∀ as Q Qe, spec as Q Qe → as.length = ps.length)
    (hN : ps.length ≤ N.length)
    (hbody : ∀ (cdv : Value) (A : Around) (outer : List Env) (s : Shared) (H : Hp) (E : XK), Room k (A.deeper (envOfC qual (defScope st) s.heap.objs.size f cdv)) →
      ∃ t, SSs (cxOf CX0 P w K mg base N qual (defScope st) f cdv A outer s H E).nox W0 (defBody st) t wb)
    (pure : ∀ as Q Qe, spec as Q Qe → wb (ends0 as Q) (initA N.length as)) : FnOk P w K mg base CX0 (k + 1) f fd ps (spOf K spec) := by
  refine F.ok S (fun vs H Q E ⟨F0, as, Q0, Qe0, A, h, _⟩ => A.len.trans (har as _ _ h)) (fun cdv A outer s H vs Q E hr h => ?_)
  obtain ⟨F0, as, Q0, Qe0, AO, hs, hq, hx⟩ := h
  obtain ⟨t, hb⟩ := hbody cdv A outer s H E hr
  refine ⟨t, hb.1, hb.2 ⟨F0, H, LentAt vs as, vs⟩ F0 H _ _ _ _ (entry_rel AO (by rw [har as _ _ hs]; exact hN)) (pure as Q0 Qe0 hs) ⟨?_, ?_, ?_, ?_, ?_⟩⟩
  · intro σ F' H' a e R h
    obtain ⟨as', ho, h⟩ := onO_iff.mp h
    exact hq _ as' h .non F' H' (post_of AO R ho) Rep.non
  · rintro σ F' H' a e R h
    exact h
  · rintro σ F' H' a e R h
    exact h
  · intro σ F' H' a v r e R rr h
    obtain ⟨as', ho, h⟩ := onO_iff.mp h
    exact hq r as' h v F' H' (post_of AO R ho) rr
  · rintro σ x a cls dx F' H' e R xr h
    exact h
end
/-- the law's own promise -/
def lawSpec (n : Nat) : Spec := fun as Q _ => ∃ ns : List Int, as = [⟨.no, .rol (ns.map D.int)⟩] ∧ ns.length ≤ n ∧ ∀ as', Q ⟨.no, .bl true⟩ as'
theorem law_sp {K : PySem.W.Frag} {n : Nat} {H : Hp} {a : Addr} {ns : List Int} (hl : ns.length ≤ n) (hS : SqL K H a (ns.map V.int)) : spOf K (lawSpec n) [.ref a] H (fun v _ => v = .bl true) (fun _ _ _ => False) := by
  refine ⟨H, [⟨.no, .rol (ns.map D.int)⟩], fun r _ => r = ⟨.no, .bl true⟩, fun _ _ => False, ⟨Same.refl H, rfl, fun k av h => ?_, fun i j ai aj p hij h1 _ o1 => ?_⟩, ⟨ns, rfl, hl, fun _ => rfl⟩, fun r as' e v F' H' P ro => ?_, fun x as' z => z.elim⟩
  · cases k with
    | zero => simp at h; subst h; exact ⟨_, rfl, fun _ => .rol hS (reps_ints ns), fun z => absurd rfl z⟩
    | succ k => simp at h
  · cases i with
    | zero => simp at h1; subst h1; exact absurd rfl o1
    | succ k => simp at h1
  · subst e
    have r' : Rep K F' v (.bl true) := ro
    cases r'
    rfl
end DS

namespace DS
open PySem PySem.Spec PyProof.Rows L2
/-- a def of the top, where its name finds it -/
def FunAt (K : PySem.W.Frag) (mg : Str → Option Value) (x : Str) (st : Stmt) (ps : List Str) : Prop := ∃ f fd, Fun K x x st f fd ∧ mg x = some (.ref f) ∧ Binds K fd ps []
/-- .. and keeping its promise -/
def Cal (P : Program) (w : World) (K : PySem.W.Frag) (mg : Str → Option Value) (base : Heap) (k : Nat) (x : Str) (ps : List Str) (spec : Spec) : Prop :=
  ∃ f fd, FnOk P w K mg base CX0 k f fd ps (spOf K spec) ∧ mg x = some (.ref f) ∧ PySem.W.keepIn K (.ref f) = true ∧ Binds K fd ps []
theorem FunAt.cal {P : Program} {w : World} {K : PySem.W.Frag} {mg : Str → Option Value} {base : Heap} {k : Nat} {x : Str} {st : Stmt} {ps : List Str} {spec : Spec} (h : FunAt K mg x st ps)
    (g : ∀ f fd, Fun K x x st f fd → FnOk P w K mg base CX0 k f fd ps (spOf K spec)) : Cal P w K mg base k x ps spec := by
  obtain ⟨f, fd, F, m, b⟩ := h
  exact ⟨f, fd, g f fd F, m, F.kp, b⟩
theorem FunAt.none {P : Program} {w : World} {K : PySem.W.Frag} {mg : Str → Option Value} {base : Heap} {x : Str} {st : Stmt} {ps : List Str} {spec : DS.Spec} (h : FunAt K mg x st ps) (k : Nat) (e : spec = fun _ _ _ => False) : Cal P w K mg base k x ps spec := by
  obtain ⟨f, fd, F, m, b⟩ := h
  subst e
  exact ⟨f, fd, ⟨fun vs H Q E ⟨_, _, _, _, _, z, _⟩ => z.elim, fun A outer s H args us vs Q E _ _ _ _ ⟨_, _, _, _, _, z, _⟩ => z.elim⟩, m, F.kp, b⟩
end DS

namespace DS
open PySem PySem.Spec PyProof.Rows L2
theorem atI_of {α : Type} {xs : List α} {i : Int} {v : α} (h0 : 0 ≤ i) (h : xs[i.toNat]? = some v) : atI xs i = some v := by
  have hi : i = ((i.toNat : Nat) : Int) := by omega
  rw [hi]
  exact atI_nat h
theorem ixN_of {n : Nat} {i : Int} (h0 : 0 ≤ i) (h : i < n) : ixN n i = some i.toNat := by
  unfold ixN
  rw [if_pos h0, if_pos h]
/-- ints as data -/
abbrev Ds (ns : List Int) : List D := ns.map D.int
theorem ds_len (ns : List Int) : (Ds ns).length = ns.length := List.length_map ..
theorem ds_get {ns : List Int} {i : Nat} {x : Int} (h : ns[i]? = some x) : (Ds ns)[i]? = some (.int x) := by
  show (ns.map D.int)[i]? = _
  rw [List.getElem?_map, h]
  rfl
theorem ds_of {ns : List Int} {i : Nat} {d : D} (h : (Ds ns)[i]? = some d) : ∃ x, ns[i]? = some x ∧ d = .int x := by
  have h' : (ns.map D.int)[i]? = some d := h
  rw [List.getElem?_map] at h'
  cases e : ns[i]? with
  | none => rw [e] at h'; cases h'
  | some x => rw [e] at h'; exact ⟨x, rfl, (Option.some.inj h').symm⟩
theorem ds_app (ns ms : List Int) : Ds (ns ++ ms) = Ds ns ++ Ds ms := List.map_append ..
/-- reading a list of ints at a place -/
theorem at_int {ns : List Int} {i : Int} {f : D → Prop} (h0 : 0 ≤ i) (h1 : i < ns.length) (hf : f (.int (ns.getD i.toNat 0))) : onO (atI (Ds ns) i) f := by
  have hl : i.toNat < ns.length := by omega
  refine onO_of (atI_of h0 (ds_get (x := ns.getD i.toNat 0) ?_)) hf
  rw [List.getElem?_eq_getElem hl, List.getD_eq_getElem?_getD, List.getElem?_eq_getElem hl]
  rfl
theorem at_lst {ds : List D} {i : Int} {f : D → Prop} (h0 : 0 ≤ i) (h1 : i < ds.length) (hf : ∀ d, ds[i.toNat]? = some d → f d) : onO (atI ds i) f := by
  have hl : i.toNat < ds.length := by omega
  exact onO_of (atI_of h0 (List.getElem?_eq_getElem hl)) (hf _ (List.getElem?_eq_getElem hl))
theorem small {n : Nat} (h : n ≤ 16000000) : n ≤ sizeLine := by rw [sizeLine_eq]; omega
theorem smaller {n : Nat} (h : n < 16000000) : n < sizeLine := by rw [sizeLine_eq]; omega
theorem cmul_l {i j : Int} (h1 : -(2 ^ 64) < i) (h2 : i < 2 ^ 64) : CMul i j := .inl ⟨h1, h2⟩
theorem cmul_r {i j : Int} (h1 : -(2 ^ 64) < j) (h2 : j < 2 ^ 64) : CMul i j := .inr ⟨h1, h2⟩
/-- what is compared by _law_same: data of some depth -/
def Pl : Nat → D → Prop
  | _, .non => True
  | _, .bl _ => True
  | _, .int _ => True
  | _, .str _ => True
  | n + 1, .lst xs => xs.length ≤ 10000000 ∧ ∀ x ∈ xs, Pl n x
  | n + 1, .tup xs => xs.length ≤ 10000000 ∧ ∀ x ∈ xs, Pl n x
  | _, _ => False
theorem pl_ints (n : Nat) (ns : List Int) (h : ns.length ≤ 10000000) : Pl (n + 1) (.lst (Ds ns)) := ⟨by rw [ds_len]; exact h, fun x hx => by
  obtain ⟨i, _, rfl⟩ := List.mem_map.mp hx
  cases n <;> trivial⟩
theorem pl_int (n : Nat) (i : Int) : Pl n (.int i) := by cases n <;> trivial
theorem pl_str (n : Nat) (i : Str) : Pl n (.str i) := by cases n <;> trivial
theorem pl_bl (n : Nat) (i : Bool) : Pl n (.bl i) := by cases n <;> trivial
theorem pl_non (n : Nat) : Pl n .non := by cases n <;> trivial
theorem drop_map (ns : List Int) (k : Nat) : (Ds ns).drop k = Ds (ns.drop k) := by
  show (ns.map D.int).drop k = (ns.drop k).map D.int
  rw [List.map_drop]
theorem cut_from (ns : List Int) (k : Nat) : cutDs (Ds ns) (some (k : Int)) none = Ds (ns.drop k) := by
  unfold cutDs
  rw [HT.sIx_nat, HT.sIx_none, ds_len]
  by_cases h : k ≤ ns.length
  · rw [Nat.min_eq_left h, drop_map]
    exact List.take_of_length_le (by rw [ds_len, List.length_drop]; omega)
  · rw [Nat.min_eq_right (by omega), Nat.sub_self, List.take_zero, List.drop_eq_nil_of_le (by omega)]
    rfl
theorem cut_fromI (ns : List Int) {i : Int} (h : 0 ≤ i) : cutDs (Ds ns) (some i) none = Ds (ns.drop i.toNat) := by
  have := cut_from ns i.toNat
  rwa [Int.toNat_of_nonneg h] at this
/-- on to what stands behind -/
theorem wNext_i {D : EndsA} {a : PSt} (h : D.nx a) : wNext D a := h
end DS

namespace DS
open PySem PySem.Spec PyProof.Rows L2
/-! ### further walks: steps, signs, from behind, numbered -/
def rangeC (lo c : Int) (n : Nat) : List D := (List.range n).map fun (i : Nat) => D.int (lo + (i : Int) * c)
theorem rangeC_len {lo c : Int} {n : Nat} : (rangeC lo c n).length = n := by simp [rangeC]
theorem rangeC_get {lo c : Int} {n i : Nat} {d : D} : (rangeC lo c n)[i]? = some d ↔ i < n ∧ d = .int (lo + (i : Int) * c) := by
  unfold rangeC
  rw [List.getElem?_map]
  by_cases h : i < n
  · rw [List.getElem?_range h]
    simp [h, eq_comm]
  · rw [List.getElem?_eq_none (by simpa using h)]
    simp [h]
theorem itc_ok {K : PySem.W.Frag} {F1 : Hp} {lo c : Int} {n : Nat} : ItR K F1 (Itc lo c n) (rangeC lo c n) where
  go := fun i E σ a F H e R hi => by
    have h : i < n := by rw [rangeC_len] at hi; exact hi
    exact h
  stop := fun E σ a F H e R => by
    show n ≤ _
    rw [rangeC_len]
    exact Nat.le_refl _
  yld := fun i E σ a F H x H' e R hi y => by
    obtain ⟨rfl, rfl⟩ := y
    exact ⟨F, .int (lo + (i : Int) * c), Same.refl F, R, rangeC_get.mpr ⟨by rw [rangeC_len] at hi; exact hi, rfl⟩, .int _⟩
theorem its_ok {K : PySem.W.Frag} {F1 : Hp} {x : Str} : ItR K F1 (Its x) (signsD x) where
  go := fun i E σ a F H e R hi => by
    have h : i < x.cps.size := by simpa [signsD] using hi
    exact h
  stop := fun E σ a F H e R => by
    show x.cps.size ≤ _
    simp [signsD]
  yld := fun i E σ a F H v H' e R hi y => by
    obtain ⟨rfl, c, hc, rfl⟩ := y
    refine ⟨F, .str ⟨#[c]⟩, Same.refl F, R, ?_, .str _⟩
    unfold signsD
    rw [List.getElem?_map, Array.getElem?_toList, hc]
    rfl
theorem itv_ok {K : PySem.W.Frag} {F1 : Hp} {p : Addr} {vs : List V} {ds : List D} (hs : SqL K F1 p vs) (r : Reps K F1 vs ds) : ItR K F1 (Itv K p vs.length) ds.reverse where
  go := fun i E σ a F H e R hi => by
    have hl : i < vs.length := by rw [r.length]; simpa using hi
    exact ⟨hl, vs, vs[vs.length - 1 - i], R.ext.seq (e.seq hs), List.getElem?_eq_getElem (by omega)⟩
  stop := fun E σ a F H e R => by
    show vs.length ≤ _
    rw [List.length_reverse, r.length]
    exact Nat.le_refl _
  yld := fun i E σ a F H x H' e R hi y => by
    obtain ⟨rfl, y⟩ := y
    obtain ⟨d, h1, h2⟩ := r.get (y vs (R.ext.seq (e.seq hs)))
    have hl : i < ds.length := by simpa using hi
    refine ⟨F, d, Same.refl F, R, ?_, h2.mono e⟩
    rw [List.getElem?_reverse hl, ← r.length]
    exact h1
/-- the items with their numbers -/
def numD (xs : List D) : List D := xs.mapIdx fun i d => .tup [.int (i : Int), d]
theorem numD_get {xs : List D} {i : Nat} {d : D} (h : xs[i]? = some d) : (numD xs)[i]? = some (.tup [.int (i : Int), d]) := by
  unfold numD
  rw [List.getElem?_mapIdx, h]
  rfl
theorem numD_len {xs : List D} : (numD xs).length = xs.length := by simp [numD]
theorem ite_ok {K : PySem.W.Frag} {F1 : Hp} {p : Addr} {vs : List V} {ds : List D} (hs : SqL K F1 p vs) (r : Reps K F1 vs ds) : ItR K F1 (Ite K p) (numD ds) where
  go := fun i E σ a F H e R hi => by
    have hl : i < vs.length := by rw [r.length, ← numD_len]; exact hi
    exact ⟨vs, vs[i], R.ext.seq (e.seq hs), List.getElem?_eq_getElem hl⟩
  stop := fun E σ a F H e R => ⟨vs, R.ext.seq (e.seq hs), by rw [numD_len, r.length]; exact Nat.le_refl _⟩
  yld := fun i E σ a F H x H' e R hi y => by
    obtain ⟨T, z, rfl, hT, rfl, y⟩ := y
    obtain ⟨d, h1, h2⟩ := r.get (y vs (R.ext.seq (e.seq hs)))
    obtain ⟨s, R2⟩ := R.layF (.tup [.int (i : Nat), z]) hT
    refine ⟨_, .tup [.int (i : Int), d], s, R2, numD_get h1, .tup (upd_same) (.cons (.int _) (.cons ((h2.mono e).mono s) .nil))⟩
section
variable {X : Cx} {W : L2.St → XK} {tg l e a b c : Expr} {pos : Pos} {ta tb tl te : TE} {la : TA} {w : WE} {ws : WA} {iter : Expr} {ti : TI} {wi : WI}
def on3 (o : Option (List D)) (f : Int → Int → Int → Prop) : Prop := match o with
  | some [.int i, .int j, .int k] => f i j k
  | _ => False
theorem on3_iff {o : Option (List D)} {f : Int → Int → Int → Prop} : on3 o f ↔ ∃ i j k, o = some [.int i, .int j, .int k] ∧ f i j k := by
  constructor
  · intro h
    unfold on3 at h
    split at h
    · exact ⟨_, _, _, rfl, h⟩
    · exact h.elim
  · rintro ⟨i, j, k, rfl, h⟩
    exact h
theorem conts3 {a1 : PSt} {rs : List Res} {i j k : Int} {K : PySem.W.Frag} {E : En} {F H : Hp} {σ : L2.St} {vs : List V} (R : Rel K E F H σ a1) (rps : RepRs K E F H σ a1 vs rs) (c : conts a1 rs = some [.int i, .int j, .int k]) : vs = [.int i, .int j, .int k] := by
  have := conts_rd R rps c
  cases this with
  | cons h t => cases t with
    | cons h' t => cases t with
      | cons h'' t => cases t; rw [h.int, h'.int, h''.int]
def wiRng3 (ws : WA) : WI := fun a q qe => ws a (fun rs a1 => on3 (conts a1 rs) fun i j c => ∃ n, RgC i j c n ∧ q (rangeC i c n) a1) qe
theorem si_range3 {p : Pos} (hg : Gl X "range") (hm : X.mg "range" = none) (ha : SA X W [a, b, c] la ws)
    (hs : starEach [a, b, c] X.env = (false, eval a X.env) :: starEach [b, c] X.env := by rfl) (hpl : (backTo pos (starEach [b, c] X.env)).any (·.1) = false := by rfl) :
    SI X W tg (.Call (.Name "range" p) [a, b, c] [] pos) (iRng3 la) (wiRng3 ws) := by
  refine ⟨pi_range3 hg hm ha.1 hs hpl, fun E F H σ a R q qe Rl hw lk lx => ha.2 E F H σ a _ _ _ Rl hw (fun vs rs F' H' a' e R' rps hn hq => ?_) lx⟩
  obtain ⟨i, j, k, c, n, h1, hk⟩ := on3_iff.mp hq
  exact ⟨i, j, k, n, conts3 R' rps c, h1, lk _ _ F' H' a' e R' itc_ok hk⟩
/-- a step range whose size is told -/
theorem rgC_up {i j c : Int} (h1 : 0 < c) (h2 : c < 1000000000) (hi : -(2 ^ 60) ≤ i) (hi' : i < 2 ^ 60) (hj : -(2 ^ 60) ≤ j) (hj' : j < 2 ^ 60) : RgC i j c (if i < j then ((j - i - 1) / c + 1).toNat else 0) := by
  have hq : i < j → 0 ≤ (j - i - 1) / c ∧ (j - i - 1) / c ≤ j - i - 1 := fun h => ⟨Int.ediv_nonneg (by omega) (by omega), Int.ediv_le_self _ (by omega)⟩
  have e : Builtin.Range.rangeSize i j c = ((if i < j then ((j - i - 1) / c + 1).toNat else 0 : Nat) : Int) := by
    unfold Builtin.Range.rangeSize
    rw [if_pos h1]
    by_cases h : i < j
    · rw [if_pos h, if_pos h]
      have := hq h
      omega
    · rw [if_neg h, if_neg h]
      rfl
  refine ⟨by omega, by omega, ?_, e⟩
  unfold Builtin.Range.small
  rw [e]
  simp only [Builtin.Range.rangeFitsLong, Bool.and_eq_true, Bool.or_eq_true, decide_eq_true_eq, beq_iff_eq, show c > 0 from h1, if_true]
  by_cases h : i < j
  · have := hq h
    rw [if_pos h]
    omega
  · rw [if_neg h]
    omega
def wiStr (w : WE) : WI := fun a q qe => w a (fun r a1 => fz r a1 fun d a2 => match d with | .str x => q (signsD x) a2 | _ => False) qe
theorem si_str (h : SE X W l tl w) : SI X W tg l (iStr tl) (wiStr w) := by
  refine ⟨pi_str h.1, fun E F H σ a R q qe Rl hw lk lx => h.2 E F H σ a _ _ _ Rl hw (fun v r F' H' a' e R' rp hq => ?_) lx⟩
  obtain ⟨F2, a2, d, s, R2, rp2, hk⟩ := fz_ok R' rp hq
  cases d with
  | str x =>
    cases rp2
    exact ⟨x, rfl, lk _ _ F2 H' a2 (e.trans s) R2 its_ok hk⟩
  | _ => exact hk.elim
end
end DS
namespace DS
open PySem PySem.Spec PyProof.Rows L2
/-! ### equal data -/
/-- data of numbers and texts, of some depth -/
def Nb : Nat → D → Prop
  | _, .non => True
  | _, .int _ => True
  | _, .str x => PyData.strOk x = true
  | n + 1, .lst xs => ∀ x ∈ xs, Nb n x
  | n + 1, .tup xs => ∀ x ∈ xs, Nb n x
  | _, _ => False
theorem pyds_some {n : Nat} {xs : List D} (h : ∀ x ∈ xs, ∃ p, pyd x = some p ∧ p.canLay0 = true ∧ p.depth ≤ n) : ∃ ps, pyds xs = some ps ∧ PyData.canLayAll0 ps = true ∧ PyData.depthAll ps ≤ n := by
  induction xs with
  | nil => exact ⟨[], rfl, by rw [PyData.canLayAll0], by rw [PyData.depthAll]; exact Nat.zero_le _⟩
  | cons x xs ih =>
    obtain ⟨p, e1, c1, d1⟩ := h x (List.mem_cons_self ..)
    obtain ⟨ps, e2, c2, d2⟩ := ih fun y hy => h y (List.mem_cons_of_mem _ hy)
    refine ⟨p :: ps, ?_, ?_, ?_⟩
    · rw [pyds, e1, e2]
    · rw [PyData.canLayAll0, c1, c2]; rfl
    · rw [PyData.depthAll]; exact Nat.max_le.mpr ⟨d1, d2⟩
theorem nb_pyd : ∀ (n : Nat) (d : D), Nb n d → ∃ p, pyd d = some p ∧ p.canLay0 = true ∧ p.depth ≤ n
  | n, .non, _ => ⟨.none, by rw [pyd], by rw [PyData.canLay0], by rw [PyData.depth]; exact Nat.zero_le _⟩
  | n, .int i, _ => ⟨.int i, by rw [pyd], by rw [PyData.canLay0], by rw [PyData.depth]; exact Nat.zero_le _⟩
  | n, .str i, h => ⟨.str i, by rw [pyd], by rw [PyData.canLay0]; cases n <;> exact h, by rw [PyData.depth]; exact Nat.zero_le _⟩
  | n + 1, .lst xs, h => by
    obtain ⟨ps, e, c, d⟩ := pyds_some (n := n) fun x hx => nb_pyd n x (h x hx)
    exact ⟨.list ps, by rw [pyd, e]; rfl, by rw [PyData.canLay0]; exact c, by rw [PyData.depth]; omega⟩
  | n + 1, .tup xs, h => by
    obtain ⟨ps, e, c, d⟩ := pyds_some (n := n) fun x hx => nb_pyd n x (h x hx)
    exact ⟨.tuple ps, by rw [pyd, e]; rfl, by rw [PyData.canLay0]; exact c, by rw [PyData.depth]; omega⟩
  | 0, .lst _, h => h.elim
  | 0, .tup _, h => h.elim
  | n, .bl _, h => by cases n <;> exact h.elim
  | n, .rol _, h => by cases n <;> exact h.elim
  | n, .rot _, h => by cases n <;> exact h.elim
  | n, .dK _, h => by cases n <;> exact h.elim
  | n, .dT _, h => by cases n <;> exact h.elim
  | n, .lK _, h => by cases n <;> exact h.elim
  | n, .lT _, h => by cases n <;> exact h.elim
  | n, .ins _ _, h => by cases n <;> exact h.elim
  | n, .exc _ _ _ _, h => by cases n <;> exact h.elim
  | n, .ty _, h => by cases n <;> exact h.elim
  | n, .adr _, h => by cases n <;> exact h.elim
theorem eqvs_nb {n : Nat} (ih : ∀ x y : D, Nb n x → Nb n y → ∀ p q, pyd x = some p → pyd y = some q → (PyData.eqv p q = true ↔ x = y)) : ∀ (xs ys : List D) (ps qs : List PyData), (∀ x ∈ xs, Nb n x) → (∀ y ∈ ys, Nb n y) → pyds xs = some ps → pyds ys = some qs → (PyData.eqvAll ps qs = true ↔ xs = ys)
  | [], [], ps, qs, _, _, e1, e2 => by cases e1; cases e2; simp [PyData.eqvAll]
  | [], y :: ys, ps, qs, _, _, e1, e2 => by
    cases e1
    obtain ⟨p, q, rfl, _, _⟩ := pyds_cons e2
    simp [PyData.eqvAll]
  | x :: xs, [], ps, qs, _, _, e1, e2 => by
    cases e2
    obtain ⟨p, q, rfl, _, _⟩ := pyds_cons e1
    simp [PyData.eqvAll]
  | x :: xs, y :: ys, ps, qs, h1, h2, e1, e2 => by
    obtain ⟨p, ps, rfl, a1, b1⟩ := pyds_cons e1
    obtain ⟨q, qs, rfl, a2, b2⟩ := pyds_cons e2
    rw [PyData.eqvAll, Bool.and_eq_true, ih x y (h1 x (List.mem_cons_self ..)) (h2 y (List.mem_cons_self ..)) p q a1 a2,
      eqvs_nb ih xs ys ps qs (fun z hz => h1 z (List.mem_cons_of_mem _ hz)) (fun z hz => h2 z (List.mem_cons_of_mem _ hz)) b1 b2, List.cons.injEq]
theorem nb_eqv : ∀ (n : Nat) (x y : D), Nb n x → Nb n y → ∀ p q, pyd x = some p → pyd y = some q → (PyData.eqv p q = true ↔ x = y) := by
  intro n
  induction n with
  | zero =>
    intro x y hx hy p q e1 e2
    cases x <;> cases y <;> first
      | exact hx.elim
      | exact hy.elim
      | (simp only [pyd] at e1 e2; cases e1; cases e2; simp [PyData.eqv])
  | succ n ih =>
    intro x y hx hy p q e1 e2
    cases x <;> cases y <;> first
      | exact hx.elim
      | exact hy.elim
      | (simp only [pyd] at e1 e2; cases e1; cases e2; simp [PyData.eqv]; done)
      | (simp only [pyd, Option.map_eq_some_iff] at e1 e2
         obtain ⟨ps, e1, rfl⟩ := e1
         obtain ⟨qs, e2, rfl⟩ := e2
         have := eqvs_nb ih _ _ _ _ hx hy e1 e2
         simp only [PyData.eqv, this, D.lst.injEq, D.tup.injEq, reduceCtorEq, Bool.false_eq_true])
      | (simp only [pyd, Option.map_eq_some_iff] at e1 e2
         obtain ⟨ps, e1, rfl⟩ := e1
         obtain ⟨qs, e2, rfl⟩ := e2
         simp [PyData.eqv]; done)
      | (simp only [pyd, Option.map_eq_some_iff] at e1 e2
         obtain ⟨ps, e1, rfl⟩ := e1
         cases e2
         simp [PyData.eqv]; done)
      | (simp only [pyd, Option.map_eq_some_iff] at e1 e2
         obtain ⟨ps, e2, rfl⟩ := e2
         cases e1
         simp [PyData.eqv]; done)
/-- == over data of numbers and texts -/
theorem eq_nb {n : Nat} {x y : D} {k : Bool → Prop} (hx : Nb n x) (hy : Nb n y) (hn : n ≤ 64) (h1 : x = y → k true) (h2 : x ≠ y → k false) : eqH x y k := by
  obtain ⟨p, e1, c1, d1⟩ := nb_pyd n x hx
  obtain ⟨q, e2, c2, d2⟩ := nb_pyd n y hy
  have he := nb_eqv n x y hx hy p q e1 e2
  have hk : k (PyData.eqv p q) := by
    by_cases h : x = y
    · rw [he.mpr h]; exact h1 h
    · have : PyData.eqv p q = false := by
        cases hb : PyData.eqv p q
        · rfl
        · exact absurd (he.mp hb) h
      rw [this]; exact h2 h
  have s1 : SeqAt.shaped p = true := by unfold SeqAt.shaped; rw [c1, decide_eq_true (by omega)]; rfl
  have s2 : SeqAt.shaped q = true := by unfold SeqAt.shaped; rw [c2, decide_eq_true (by omega)]; rfl
  unfold eqH
  exact .inr ⟨p, q, e1, e2, s1, s2, hk⟩
theorem nb_int (n : Nat) (i : Int) : Nb n (.int i) := by cases n <;> trivial
theorem nb_ints (n : Nat) (ns : List Int) : Nb (n + 1) (.lst (Ds ns)) := fun x hx => by
  obtain ⟨i, _, rfl⟩ := List.mem_map.mp hx
  exact nb_int n i
theorem ds_inj {xs ys : List Int} (h : D.lst (Ds xs) = D.lst (Ds ys)) : xs = ys := by
  have h := D.lst.inj h
  exact (List.map_inj_right fun a b e => D.int.inj e).mp h
/-- == over lists of ints -/
theorem eq_ints {xs ys : List Int} {k : Bool → Prop} (h1 : xs = ys → k true) (h2 : xs ≠ ys → k false) : eqH (.lst (Ds xs)) (.lst (Ds ys)) k :=
  eq_nb (nb_ints 0 xs) (nb_ints 0 ys) (by decide) (fun h => h1 (ds_inj h)) (fun h => h2 fun z => h (by rw [z]))
theorem cut_midD (ds : List D) {a b : Int} (ha : 0 ≤ a) (hb : 0 ≤ b) : cutDs ds (some a) (some b) = (ds.drop a.toNat).take (b.toNat - a.toNat) := by
  obtain ⟨i, rfl⟩ : ∃ i : Nat, a = (i : Int) := ⟨a.toNat, by omega⟩
  obtain ⟨j, rfl⟩ : ∃ j : Nat, b = (j : Int) := ⟨b.toNat, by omega⟩
  unfold cutDs
  rw [HT.sIx_nat, HT.sIx_nat]
  show _ = (ds.drop i).take (j - i)
  by_cases h : i ≤ ds.length
  · rw [Nat.min_eq_left h]
    by_cases h2 : j ≤ ds.length
    · rw [Nat.min_eq_left h2]
    · rw [Nat.min_eq_right (by omega), List.take_of_length_le (by rw [List.length_drop]; omega), List.take_of_length_le (by rw [List.length_drop]; omega)]
  · have h' : ds.length ≤ i := by omega
    rw [Nat.min_eq_right h', List.drop_eq_nil_of_le h', List.drop_eq_nil_of_le (Nat.le_refl _)]
    simp
theorem cut_upD (ds : List D) {b : Int} (hb : 0 ≤ b) : cutDs ds none (some b) = ds.take b.toNat := by
  obtain ⟨j, rfl⟩ : ∃ j : Nat, b = (j : Int) := ⟨b.toNat, by omega⟩
  unfold cutDs
  rw [HT.sIx_none, HT.sIx_nat]
  show (ds.drop 0).take (min j ds.length - 0) = ds.take j
  rw [List.drop_zero, Nat.sub_zero]
  by_cases h2 : j ≤ ds.length
  · rw [Nat.min_eq_left h2]
  · rw [Nat.min_eq_right (by omega), List.take_of_length_le (by omega), List.take_of_length_le (by omega)]
theorem cut_mid (ns : List Int) {a b : Int} (ha : 0 ≤ a) (hb : 0 ≤ b) : cutDs (Ds ns) (some a) (some b) = Ds ((ns.drop a.toNat).take (b.toNat - a.toNat)) := by
  rw [cut_midD _ ha hb, drop_map, ← List.map_take]
theorem cut_up (ns : List Int) {b : Int} (hb : 0 ≤ b) : cutDs (Ds ns) none (some b) = Ds (ns.take b.toNat) := by
  rw [cut_upD _ hb, ← List.map_take]
theorem rep_ints (n : Nat) (c : Int) : (List.replicate n [D.int c]).flatten = Ds (List.replicate n c) := by
  induction n with
  | zero => rfl
  | succ n ih => rw [List.replicate_succ, List.flatten_cons, ih, List.replicate_succ]; rfl
/-! ### over a list that is lent: it stays what it is, turn by turn -/
@[irreducible] def forL (k : Nat) (items : List D) (wg : WG) (wb : WS) (D : EndsA) (a : PSt) : Prop := ∃ Inv : Nat → PSt → Prop, Inv 0 a ∧ (∀ i a2, Inv i a2 → a2[k]? = some (some ⟨.lent, .lst items⟩)) ∧
  (∀ i a2 d, items[i]? = some d → Inv i a2 → wg d a2 fun a3 => wb { D with nx := Inv (i + 1), ct := Inv (i + 1), bk := D.nx } a3) ∧ ∀ a2, Inv items.length a2 → D.nx a2
theorem for_l {k : Nat} {items : List D} {wg : WG} {wb : WS} {D : EndsA} {a : PSt} (Inv : Nat → PSt → Prop) (h0 : Inv 0 a) (hk : ∀ i a2, Inv i a2 → a2[k]? = some (some ⟨.lent, .lst items⟩))
    (hs : ∀ i a2 d, items[i]? = some d → Inv i a2 → wg d a2 fun a3 => wb { D with nx := Inv (i + 1), ct := Inv (i + 1), bk := D.nx } a3) (he : ∀ a2, Inv items.length a2 → D.nx a2) : forL k items wg wb D a := by unfold forL; exact ⟨Inv, h0, hk, hs, he⟩
def lentAt (a : PSt) (k : Nat) : Option (List D) := match a[k]? with
  | some (some ⟨.lent, .lst xs⟩) => some xs
  | _ => none
theorem lentAt_some {a : PSt} {k : Nat} {xs : List D} (h : lentAt a k = some xs) : a[k]? = some (some ⟨.lent, .lst xs⟩) := by
  unfold lentAt at h
  split at h
  · cases h; assumption
  · cases h
def wForN (k : Nat) (wg : WG) (wb : WS) : WS := fun D a => match lentAt a k with
  | some items => forL k items wg wb D a
  | none => wFor (wiSeq (wVar k)) wg wb D a
theorem ss_forN {X : Cx} {W : L2.St → XK} {tg e : Expr} {k : Nat} {g : TG} {wg : WG} {sl : List Nat} {tb' : TS} {wb : WS} {pos : Pos} {body : List Stmt} (hp : PassesOwn (model X.prog X.w) X.A X.env X.xe) (hc : X.calm = true) (he : PE X e (tVar k)) (hg : SG X tg g wg sl) (hb : SSs X W body tb' wb) (hs : ∀ x, foldedSetIterable e X.env x = pure x := by intro _; rfl) :
    SS X W (.For tg e body [] pos) (tFor (iList X.K (tVar k)) g tb') (wForN k wg wb) := by
  refine ⟨ps_for hp hc (pi_list he) hg.1 hb.1 hs, fun E F H σ a D DA R hw l => ?_⟩
  unfold wForN at hw
  split at hw
  · rename_i items hl
    have hl := lentAt_some hl
    unfold forL at hw
    obtain ⟨Inv, h0, hk, hst, hend⟩ := hw
    obtain ⟨v, hσ, p, rfl, hF, hL, hv, hT⟩ := R.sl k _ hl
    have seq : ∀ {F2 H2 : Hp} {σ2 : L2.St} {a2 : PSt}, Rel X.K E F2 H2 σ2 a2 → a2[k]? = some (some ⟨.lent, .lst items⟩) → ∃ vs, H2 p = some (.lst vs) ∧ Reps X.K F2 vs items := by
      intro F2 H2 σ2 a2 R2 h2
      obtain ⟨v2, _, p2, rfl, _, _, hv2, o, ho, t⟩ := R2.sl k _ h2
      have e : p2 = p := by rw [hv] at hv2; cases hv2; rfl
      subst e
      cases t with
      | lst r => exact ⟨_, ho, r⟩
    obtain ⟨vs, hp1, _⟩ := seq R hl
    refine ⟨.ref p, hσ, p, rfl, ⟨vs, SqL.of hp1⟩, ?_⟩
    refine ⟨fun i m σ' H' => m = items.length - i ∧ i ≤ items.length ∧ ∃ F2 a2, Same F F2 ∧ Rel X.K E F2 H' σ' a2 ∧ Inv i a2, ⟨_, rfl, Nat.zero_le _, F, a, Same.refl F, R, h0⟩, ?_⟩
    rintro i m σ' H' ⟨rfl, hi', F2, a2, s2, R2, hinv⟩
    obtain ⟨vs, hp2, rp2⟩ := seq R2 (hk i a2 hinv)
    by_cases hlt : i < items.length
    · have hlv : i < vs.length := by rw [rp2.length]; exact hlt
      refine .inr ⟨⟨vs, vs[i], SqL.of hp2, List.getElem?_eq_getElem hlv⟩, fun σ3 H3 => ∃ F3 a3, Same F F3 ∧ Rel X.K E F3 H3 σ3 a3 ∧ Inv (i + 1) a3, fun σ3 H3 ⟨F3, a3, s3, R3, h3⟩ => ⟨items.length - (i + 1), by omega, rfl, hlt, F3, a3, s3, R3, h3⟩, fun x H3 y => ?_⟩
      obtain ⟨rfl, y⟩ := y
      obtain ⟨d, hd, rp⟩ := rp2.get (y vs (SqL.of hp2))
      refine hg.2 E F2 _ σ' a2 x d _ _ R2 rp (hst i a2 d hd hinv) fun σ4 a4 _ R4 hq4 => hb.2 E F2 _ σ4 a4 _ _ R4 hq4 ⟨fun σ5 F5 H5 a5 e5 R5 q5 => ?_, fun σ5 F5 H5 a5 e5 R5 q5 => ?_, fun σ5 F5 H5 a5 e5 R5 q5 => ?_, fun σ5 F5 H5 a5 v r e5 => ?_, fun σ5 => ?_⟩
      · exact ⟨F5, a5, s2.trans e5, R5, q5⟩
      · exact l.nx σ5 F5 H5 a5 (s2.trans e5) R5 q5
      · exact ⟨F5, a5, s2.trans e5, R5, q5⟩
      · exact l.rt σ5 F5 H5 a5 v r (s2.trans e5)
      · exact (l.ex σ5).to (s2)
    · have e : i = items.length := by omega
      subst e
      exact .inl ⟨⟨vs, SqL.of hp2, by rw [rp2.length]; exact Nat.le_refl _⟩, l.nx σ' F2 H' a2 s2 R2 (hend a2 hinv)⟩
  · exact (ss_for (pos := pos) hp hc (si_list (se_var he)) hg hb hs).2 E F H σ a D DA R hw l
theorem ds_set (ns : List Int) (k : Nat) (i : Int) : (Ds ns).set k (D.int i) = Ds (ns.set k i) := (List.map_set ..).symm
end DS

namespace DS
open PySem PySem.Spec PyProof.Rows L2
/-! ### dicts -/
section
variable {κ α : Type} [DecidableEq κ]
def valD (kvs : List (κ × α)) (k : κ) : Option α := (kvs.find? fun kv => decide (kv.1 = k)).map (·.2)
def putD (kvs : List (κ × α)) (k : κ) (v : α) : List (κ × α) := if (kvs.any fun kv => decide (kv.1 = k)) = true then kvs.map (fun kv => if kv.1 = k then (kv.1, v) else kv) else kvs ++ [(k, v)]
theorem valD_nil {k : κ} : valD ([] : List (κ × α)) k = none := rfl
theorem valD_cons {p : κ × α} {r : List (κ × α)} {k : κ} : valD (p :: r) k = if p.1 = k then some p.2 else valD r k := by
  by_cases e : p.1 = k
  · rw [if_pos e]; simp [valD, List.find?_cons, e]
  · rw [if_neg e]; simp [valD, List.find?_cons, e]
theorem valD_any (k : κ) : ∀ kvs : List (κ × α), (kvs.any fun kv => decide (kv.1 = k)) = (valD kvs k).isSome
  | [] => rfl
  | p :: r => by
    rw [List.any_cons, valD_cons, valD_any k r]
    by_cases e : p.1 = k
    · rw [if_pos e, decide_eq_true e]; rfl
    · rw [if_neg e, decide_eq_false e]; rfl
theorem valD_app (k : κ) (v : α) (j : κ) : ∀ kvs : List (κ × α), valD kvs k = none → valD (kvs ++ [(k, v)]) j = if j = k then some v else valD kvs j
  | [], _ => by
    rw [List.nil_append, valD_cons, valD_nil]
    by_cases e : k = j
    · rw [if_pos e, if_pos e.symm]
    · rw [if_neg e, if_neg fun z => e z.symm]
  | p :: r, hn => by
    rw [valD_cons] at hn
    by_cases e : p.1 = k
    · rw [if_pos e] at hn; cases hn
    · rw [if_neg e] at hn
      rw [List.cons_append, valD_cons, valD_cons, valD_app k v j r hn]
      by_cases e2 : p.1 = j
      · rw [if_pos e2, if_pos e2, if_neg fun z => e (e2.trans z)]
      · rw [if_neg e2, if_neg e2]
theorem valD_map (k j : κ) (y : α) : ∀ kvs : List (κ × α), valD (kvs.map fun kv => if kv.1 = k then (kv.1, y) else kv) j = if j = k then (valD kvs j).map fun _ => y else valD kvs j
  | [] => by simp [valD_nil]
  | p :: r => by
    have ih := valD_map k j y r
    rw [List.map_cons, valD_cons, valD_cons, ih]
    by_cases h : p.1 = k
    · by_cases e : p.1 = j
      · have hj : j = k := e.symm.trans h
        simp [h, hj]
      · have hj : ¬ k = j := fun z => e (h.trans z)
        have hj2 : ¬ j = k := fun z => hj z.symm
        simp [h, hj, hj2]
    · by_cases e : p.1 = j
      · have hj : ¬ j = k := fun z => h (e.trans z)
        simp [e, hj]
      · simp [h, e]
theorem valD_put (kvs : List (κ × α)) (k : κ) (v : α) (j : κ) : valD (putD kvs k v) j = if j = k then some v else valD kvs j := by
  unfold putD
  rw [valD_any]
  by_cases h : (valD kvs k).isSome = true
  · rw [if_pos h, valD_map]
    by_cases e : j = k
    · subst e
      rw [if_pos rfl, if_pos rfl]
      cases hv : valD kvs j with
      | none => rw [hv] at h; cases h
      | some x => rfl
    · rw [if_neg e, if_neg e]
  · rw [if_neg h]
    exact valD_app k v j kvs (by cases hv : valD kvs k with | none => rfl | some x => rw [hv] at h; exact absurd rfl h)
theorem putD_len (kvs : List (κ × α)) (k : κ) (v : α) : (putD kvs k v).length ≤ kvs.length + 1 := by
  unfold putD
  split
  · rw [List.length_map]; omega
  · rw [List.length_append]; simp
end
section
variable {K : PySem.W.Frag} {E : En} {F F' H H' : Hp} {σ : L2.St} {a : PSt}
theorem RepA.val {κ : Type} [DecidableEq κ] (k : κ) : ∀ (ds : List (κ × D)) (vs : List (κ × V)), RepA K F vs ds → (∀ d, valD ds k = some d → ∃ v, valV vs k = some v ∧ Rep K F v d) ∧ (valD ds k = none → valV vs k = none)
  | [], vs, r => by
    cases r
    exact ⟨fun d h => (by rw [valD_nil] at h; cases h), fun _ => rfl⟩
  | p :: ds, vs, r => by
    cases r with
    | @cons _ k' v vs d ds h t =>
      obtain ⟨a, b⟩ := RepA.val k ds _ t
      by_cases e : k' = k
      · refine ⟨fun d' hd => ?_, fun hd => ?_⟩
        · rw [valD_cons, if_pos e] at hd
          cases hd
          exact ⟨v, valV_pos (p := (k', v)) e, h⟩
        · rw [valD_cons, if_pos e] at hd
          cases hd
      · refine ⟨fun d' hd => ?_, fun hd => ?_⟩
        · rw [valD_cons, if_neg e] at hd
          obtain ⟨u, hu, ru⟩ := a d' hd
          exact ⟨u, by rw [valV_neg (p := (k', v)) e]; exact hu, ru⟩
        · rw [valD_cons, if_neg e] at hd
          rw [valV_neg (p := (k', v)) e]
          exact b hd
theorem RepA.len {κ : Type} : ∀ (ds : List (κ × D)) (vs : List (κ × V)), RepA K F vs ds → vs.length = ds.length
  | [], vs, r => by cases r; rfl
  | p :: ds, vs, r => by
    cases r with
    | @cons _ k' v vs d ds h t => rw [List.length_cons, List.length_cons, RepA.len ds _ t]
theorem RepA.any {κ : Type} [DecidableEq κ] (k : κ) : ∀ (ds : List (κ × D)) (vs : List (κ × V)), RepA K F vs ds → (vs.any fun kv => decide (kv.1 = k)) = (ds.any fun kv => decide (kv.1 = k))
  | [], vs, r => by cases r; rfl
  | p :: ds, vs, r => by
    cases r with
    | @cons _ k' v vs d ds h t => rw [List.any_cons, List.any_cons, RepA.any k ds _ t]
theorem RepA.snoc {κ : Type} {k : κ} {v : V} {d : D} (h : Rep K F v d) : ∀ (ds : List (κ × D)) (vs : List (κ × V)), RepA K F vs ds → RepA K F (vs ++ [(k, v)]) (ds ++ [(k, d)])
  | [], vs, r => by cases r; exact .cons h .nil
  | p :: ds, vs, r => by
    cases r with
    | @cons _ k' v vs d ds h' t => exact .cons h' (RepA.snoc h ds _ t)
theorem RepA.mapp {κ : Type} [DecidableEq κ] {k : κ} {v : V} {d : D} (h : Rep K F v d) : ∀ (ds : List (κ × D)) (vs : List (κ × V)), RepA K F vs ds → RepA K F (vs.map fun kv => if kv.1 = k then (kv.1, v) else kv) (ds.map fun kv => if kv.1 = k then (kv.1, d) else kv)
  | [], vs, r => by cases r; exact .nil
  | p :: ds, vs, r => by
    cases r with
    | @cons _ k' v' vs d' ds h' t =>
      rw [List.map_cons, List.map_cons]
      by_cases e : k' = k
      · rw [if_pos e, if_pos e]; exact .cons h (RepA.mapp h ds _ t)
      · rw [if_neg e, if_neg e]; exact .cons h' (RepA.mapp h ds _ t)
theorem RepA.put {κ : Type} [DecidableEq κ] {k : κ} {v : V} {d : D} {ds : List (κ × D)} {vs : List (κ × V)} (r : RepA K F vs ds) (h : Rep K F v d) : RepA K F (putK vs k v) (putD ds k d) := by
  unfold putK putD
  rw [r.any k]
  split
  · exact r.mapp h
  · exact r.snoc h
def keyD : D → Option L2.Key
  | .int i => some (.inl i)
  | .str x => some (.inr x)
  | _ => none
def keysD : List D → Option (List L2.Key)
  | [] => some []
  | d :: ds => match keyD d, keysD ds with
    | some k, some ks => some (k :: ks)
    | _, _ => none
theorem key_rep {v : V} {d : D} {k : L2.Key} (h : Rep K F v d) (e : keyD d = some k) : v = kV k := by
  cases d with
  | int i => cases e; cases h; rfl
  | str i => cases e; cases h; rfl
  | _ => cases e
theorem keys_rep : ∀ (ds : List D) (vs : List V) (ks : List L2.Key), Reps K F vs ds → keysD ds = some ks → vs = ks.map kV
  | [], vs, ks, r, e => by cases r; cases e; rfl
  | d :: ds, vs, ks, r, e => by
    cases r with
    | cons h t =>
      unfold keysD at e
      split at e
      · rename_i k ks' e1 e2
        cases e
        rw [key_rep h e1, keys_rep ds _ ks' t e2]
        rfl
      · cases e
def lookD : D → D → Option (Option D)
  | .dK kvs, y => (keyD y).map (valD kvs)
  | .lK kvs, y => (keyD y).map (valD kvs)
  | .lT kvs, .tup ys => (keysD ys).map (valD kvs)
  | .dT kvs, .tup ys => (keysD ys).map (valD kvs)
  | _, _ => none
theorem dk_of (e : Same F H) {v : V} {ds : List (L2.Key × D)} (h : RdD K F H v (.dK ds)) : ∃ a vs, v = .ref a ∧ H a = some (.dK vs) ∧ RepA K F vs ds := by
  rcases h with h | ⟨p, rfl, o, ho, t⟩
  · cases h with | dK hf r => exact ⟨_, _, rfl, e _ _ hf, r⟩
  · cases t with | dK r => exact ⟨p, _, rfl, ho, r⟩
theorem dt_of (e : Same F H) {v : V} {ds : List (List L2.Key × D)} (h : RdD K F H v (.dT ds)) : ∃ a vs, v = .ref a ∧ H a = some (.dT vs) ∧ RepA K F vs ds := by
  rcases h with h | ⟨p, rfl, o, ho, t⟩
  · cases h with | dT hf r => exact ⟨_, _, rfl, e _ _ hf, r⟩
  · cases t with | dT r => exact ⟨p, _, rfl, ho, r⟩
theorem key_rd {v : V} {d : D} {k : L2.Key} (h : RdD K F H v d) (e : keyD d = some k) : v = kV k := by
  rcases h with h | ⟨p, rfl, o, ho, t⟩
  · exact key_rep h e
  · cases t <;> cases e
theorem tup_rd (e : Same F H) {v : V} {ds : List D} {ks : List L2.Key} (h : RdD K F H v (.tup ds)) (he : keysD ds = some ks) : ∃ b, v = .ref b ∧ H b = some (.tup (ks.map kV)) := by
  rcases h with h | ⟨p, rfl, o, ho, t⟩
  · cases h with | tup hf r => exact ⟨_, rfl, by rw [← keys_rep _ _ _ r he]; exact e _ _ hf⟩
  · cases t
theorem lk_of (e : Same F H) {v : V} {ds : List (L2.Key × D)} (h : RdD K F H v (.lK ds)) : ∃ a o vs, v = .ref a ∧ H a = some (.frz o (.dK vs)) ∧ RepA K F vs ds := by
  rcases h with h | ⟨p, rfl, o, ho, t⟩
  · cases h with | lK hf r => exact ⟨_, _, _, rfl, e _ _ hf, r⟩
  · cases t with | lK r => exact ⟨p, _, _, rfl, ho, r⟩
theorem lt_of (e : Same F H) {v : V} {ds : List (List L2.Key × D)} (h : RdD K F H v (.lT ds)) : ∃ a o vs, v = .ref a ∧ H a = some (.frz o (.dT vs)) ∧ RepA K F vs ds := by
  rcases h with h | ⟨p, rfl, o, ho, t⟩
  · cases h with | lT hf r => exact ⟨_, _, _, rfl, e _ _ hf, r⟩
  · cases t with | lT r => exact ⟨p, _, _, rfl, ho, r⟩
theorem look_ok {v1 v2 : V} {x y : D} {o : Option D} (e : Same F H) (h1 : RdD K F H v1 x) (h2 : RdD K F H v2 y) (hl : lookD x y = some o) :
    ∃ a ov, v1 = .ref a ∧ DGet H a v2 ov ∧ IsD H a ∧ (∀ d, o = some d → ∃ v, ov = some v ∧ Rep K F v d) ∧ (o = none → ov = none) := by
  unfold lookD at hl
  split at hl
  · obtain ⟨k, hk, rfl⟩ := Option.map_eq_some_iff.mp hl
    obtain ⟨a, vs, rfl, ha, r⟩ := dk_of e h1
    obtain rfl := key_rd h2 hk
    exact ⟨a, _, rfl, .k ha, .inl ⟨_, .of ha⟩, (r.val k).1, (r.val k).2⟩
  · obtain ⟨k, hk, rfl⟩ := Option.map_eq_some_iff.mp hl
    obtain ⟨a, o, vs, rfl, ha, r⟩ := lk_of e h1
    obtain rfl := key_rd h2 hk
    exact ⟨a, _, rfl, .inl ⟨_, k, .inr ⟨o, ha⟩, rfl, rfl⟩, .inl ⟨_, .inr ⟨o, ha⟩⟩, (r.val k).1, (r.val k).2⟩
  · obtain ⟨k, hk, rfl⟩ := Option.map_eq_some_iff.mp hl
    obtain ⟨a, o, vs, rfl, ha, r⟩ := lt_of e h1
    obtain ⟨b, rfl, hb⟩ := tup_rd e h2 hk
    exact ⟨a, _, rfl, .inr ⟨_, k, b, .inr ⟨o, ha⟩, rfl, hb, rfl⟩, .inr ⟨_, .inr ⟨o, ha⟩⟩, (r.val k).1, (r.val k).2⟩
  · obtain ⟨k, hk, rfl⟩ := Option.map_eq_some_iff.mp hl
    obtain ⟨a, vs, rfl, ha, r⟩ := dt_of e h1
    obtain ⟨b, rfl, hb⟩ := tup_rd e h2 hk
    exact ⟨a, _, rfl, .t ha hb, .inr ⟨_, .of ha⟩, (r.val k).1, (r.val k).2⟩
  · cases hl
/-- d[k] -/
def dDGet : DOp := fun x y k => onO (lookD x y) fun o => onO o fun d => k (.dat d)
def rDGet : R2 := fun x y H Q => ∃ a v, x = .ref a ∧ DGet H a y (some v) ∧ Q v H
theorem dDGet_ok : OpS K rDGet dDGet := by
  intro E F H σ a v1 v2 x y Q k R h1 h2 ho l
  obtain ⟨o, e, ho⟩ := onO_iff.mp ho
  obtain ⟨d, rfl, hk⟩ := onO_iff.mp ho
  obtain ⟨p, ov, rfl, g, _, h3, _⟩ := look_ok R.ext h1 h2 e
  obtain ⟨v, rfl, rv⟩ := h3 d rfl
  exact ⟨p, v, rfl, g, l v (.dat d) F H (Same.refl F) R rv hk⟩
/-- k in d, k not in d -/
def dDIn : DOp := fun y x k => onO (lookD x y) fun o => k (.dat (.bl o.isSome))
def dDNotIn : DOp := fun y x k => onO (lookD x y) fun o => k (.dat (.bl (!o.isSome)))
def rDIn : R2 := fun y x H Q => ∃ a o, x = .ref a ∧ DGet H a y o ∧ Q (.bl o.isSome) H
def rDNotIn : R2 := fun y x H Q => ∃ a o, x = .ref a ∧ DGet H a y o ∧ Q (.bl (!o.isSome)) H
theorem some_iso {o : Option D} {ov : Option V} (h3 : ∀ d, o = some d → ∃ v, ov = some v ∧ Rep K F v d) (h4 : o = none → ov = none) : ov.isSome = o.isSome := by
  cases o with
  | none => rw [h4 rfl]; rfl
  | some d => obtain ⟨v, rfl, _⟩ := h3 d rfl; rfl
theorem dDIn_ok : OpS K rDIn dDIn := by
  intro E F H σ a v1 v2 x y Q k R h1 h2 ho l
  obtain ⟨o, e, hk⟩ := onO_iff.mp ho
  obtain ⟨p, ov, rfl, g, _, h3, h4⟩ := look_ok R.ext h2 h1 e
  refine ⟨p, ov, rfl, g, ?_⟩
  rw [some_iso h3 h4]
  exact l _ (.dat _) F H (Same.refl F) R (Rep.bl _) hk
theorem dDNotIn_ok : OpS K rDNotIn dDNotIn := by
  intro E F H σ a v1 v2 x y Q k R h1 h2 ho l
  obtain ⟨o, e, hk⟩ := onO_iff.mp ho
  obtain ⟨p, ov, rfl, g, _, h3, h4⟩ := look_ok R.ext h2 h1 e
  refine ⟨p, ov, rfl, g, ?_⟩
  rw [some_iso h3 h4]
  exact l _ (.dat _) F H (Same.refl F) R (Rep.bl _) hk
end
section
variable {X : Cx} {W : L2.St → XK} {e a b c : Expr} {pos : Pos} {ta tb tc : TE} {w w1 w2 w3 : WE}
theorem se_dget (hu : X.A.units + 1 < cLine) (h1 : SE X W a ta w1) (h2 : SE X W b tb w2) (hs : NoSl b) : SE X W (.Subscript a b pos) (tDGet ta tb) (wBin dDGet w1 w2) :=
  ⟨pe_dget hu h1.1 h2.1 hs, bin_ok (r := rDGet) dDGet_ok h1.2 h2.2⟩
theorem se_din (hu : X.A.units + 1 < cLine) (h1 : SE X W a ta w1) (h2 : SE X W b tb w2) (hm : behindInMarks .In b = false) : SE X W (.Compare a [.In] [b] pos) (tDIn ta tb) (wBin dDIn w1 w2) :=
  ⟨pe_cmp (pc_din hu h1.1 h2.1) hm, bin_ok (r := rDIn) dDIn_ok h1.2 h2.2⟩
theorem se_dnotin (hu : X.A.units + 1 < cLine) (h1 : SE X W a ta w1) (h2 : SE X W b tb w2) (hm : behindInMarks .NotIn b = false) : SE X W (.Compare a [.NotIn] [b] pos) (tDNotIn ta tb) (wBin dDNotIn w1 w2) :=
  ⟨pe_cmp (pc_dnotin hu h1.1 h2.1) hm, bin_ok (r := rDNotIn) dDNotIn_ok h1.2 h2.2⟩
theorem st_din (hu : X.A.units + 1 < cLine) (h1 : SE X W a ta w1) (h2 : SE X W b tb w2) (hm : behindInMarks .In b = false) : ST X W (.Compare a [.In] [b] pos) (tTest (tDIn ta tb)) (wTst (wBin dDIn w1 w2)) :=
  ⟨pt_cmp (pc_din hu h1.1 h2.1) hm, tst_ok (bin_ok (r := rDIn) dDIn_ok h1.2 h2.2)⟩
theorem st_dnotin (hu : X.A.units + 1 < cLine) (h1 : SE X W a ta w1) (h2 : SE X W b tb w2) (hm : behindInMarks .NotIn b = false) : ST X W (.Compare a [.NotIn] [b] pos) (tTest (tDNotIn ta tb)) (wTst (wBin dDNotIn w1 w2)) :=
  ⟨pt_cmp (pc_dnotin hu h1.1 h2.1) hm, tst_ok (bin_ok (r := rDNotIn) dDNotIn_ok h1.2 h2.2)⟩
/-- {} -/
def wNew (d : D) : WE := fun a q _ => q (.new d) a
theorem se_dnewK : SE X W (.Dict [] [] pos) tDNewK (wNew (.dK [])) := ⟨pe_dnewK, fun E F H σ a Q q qe R hw l _ p hp => by
  obtain ⟨f1, f2, f3⟩ := R.fresh hp
  exact l (.ref p) (.new (.dK [])) F _ a (Same.refl F) (R.lay _ hp) ⟨p, rfl, f1, f2, ⟨_, upd_same, .dK .nil⟩, f3⟩ hw⟩
theorem se_dnewT : SE X W (.Dict [] [] pos) tDNewT (wNew (.dT [])) := ⟨pe_dnewT, fun E F H σ a Q q qe R hw l _ p hp => by
  obtain ⟨f1, f2, f3⟩ := R.fresh hp
  exact l (.ref p) (.new (.dT [])) F _ a (Same.refl F) (R.lay _ hp) ⟨p, rfl, f1, f2, ⟨_, upd_same, .dT .nil⟩, f3⟩ hw⟩
/-- d[k] = e -/
def putS (x y d : D) (k : D → Prop) : Prop := match x, y with
  | .dK kvs, y => onO (keyD y) fun key => kvs.length < sizeLine ∧ k (.dK (putD kvs key d))
  | .dT kvs, .tup ys => onO (keysD ys) fun key => kvs.length < sizeLine ∧ k (.dT (putD kvs key d))
  | _, _ => False
def onOwnD (x : Option (Option AV)) (f : Ow → D → Prop) : Prop := match x with
  | some (some ⟨.own, c⟩) => f .own c
  | some (some ⟨.lent, c⟩) => f .lent c
  | _ => False
theorem onOwnD_iff {x : Option (Option AV)} {f : Ow → D → Prop} : onOwnD x f ↔ ∃ o c, x = some (some ⟨o, c⟩) ∧ o ≠ .no ∧ f o c := by
  constructor
  · intro h
    unfold onOwnD at h
    split at h
    · exact ⟨_, _, rfl, by simp, h⟩
    · exact ⟨_, _, rfl, by simp, h⟩
    · exact h.elim
  · rintro ⟨o, c, rfl, ho, h⟩
    cases o
    · exact absurd rfl ho
    · exact h
    · exact h
def wDPut (i : Nat) (wk w : WE) : WS := fun D a => w a (fun r a1 => fz r a1 fun d a2 => onS a2[i]? fun _ => wk a2 (fun rk a3 => onO (con a3 rk) fun y => onOwnD a3[i]? fun o x => putS x y d fun x' => D.nx (a3.set i (some ⟨o, x'⟩))) D.ex) D.ex
theorem ss_dput {i : Nat} {o : Expr} {p2 : Pos} (hu : X.A.units + 1 < cLine) (ho : PE X o (tVar i)) (hk : SE X W b tb w2) (h : SE X W e ta w) (hs : swapsWith e (some (.Subscript o b p2)) pos.line X.env = pure false := by rfl) :
    SS X W (.Assign [.Subscript o b p2] e pos) (sDPut (tVar i) tb ta) (wDPut i w2 w) := by
  refine ⟨ps_dput hu ho hk.1 h.1 hs, fun E F H σ a D DA R hw l => h.2 E F H σ a _ _ _ R hw (fun v r F' H' a' e R' rp q => ?_) (l.ex σ)⟩
  obtain ⟨F2, a2, d, s, R2, rp2, hq⟩ := fz_ok R' rp q
  obtain ⟨av, ha, hq⟩ := onS_iff.mp hq
  obtain ⟨vo, hv, _⟩ := R2.sl i av ha
  refine ⟨vo, hv, hk.2 E F2 H' σ a2 _ _ _ R2 hq (fun u rk F3 H3 a3 e3 R3 rp3 hq3 => ?_) ((l.ex σ).to (e.trans s))⟩
  obtain ⟨y, c, hq3⟩ := onO_iff.mp hq3
  obtain ⟨o, x, h3, ho3, hq3⟩ := onOwnD_iff.mp hq3
  have hy := rd_of R3 rp3 c
  have hx : ∃ p, vo = .ref p ∧ TopAt X.K F3 H3 p x := by
    obtain ⟨v', hv', oa⟩ := R3.sl i _ h3
    rw [hv] at hv'
    cases hv'
    cases o with
    | no => exact absurd rfl ho3
    | own => obtain ⟨p, rfl, _, _, t⟩ := oa; exact ⟨p, rfl, t⟩
    | lent => obtain ⟨p, rfl, _, _, _, t⟩ := oa; exact ⟨p, rfl, t⟩
  obtain ⟨p, rfl, ob, hob, t⟩ := hx
  unfold putS at hq3
  split at hq3
  · obtain ⟨key, hkey, hz, hnx⟩ := onO_iff.mp hq3
    cases t with
    | dK r =>
      obtain rfl := key_rd hy hkey
      refine ⟨p, _, rfl, DPut.k hob (by rw [r.len]; exact hz), ?_⟩
      exact l.nx _ F3 _ _ ((e.trans s).trans e3) (R3.write h3 ho3 hv (.dK (r.put (rp2.mono e3)))) hnx
  · obtain ⟨key, hkey, hz, hnx⟩ := onO_iff.mp hq3
    cases t with
    | dT r =>
      obtain ⟨q, rfl, hb⟩ := tup_rd R3.ext hy hkey
      refine ⟨p, _, rfl, DPut.t hob hb (by rw [r.len]; exact hz), ?_⟩
      exact l.nx _ F3 _ _ ((e.trans s).trans e3) (R3.write h3 ho3 hv (.dT (r.put (rp2.mono e3)))) hnx
  · exact hq3.elim
/-- d.get(k, x) -/
def isDic : D → Bool
  | .dK _ => true
  | .dT _ => true
  | _ => false
def wDGet2 (w1 w2 w3 : WE) : WE := fun a q qe => w1 a (fun r1 a1 => onO (con a1 r1) fun x => isDic x = true ∧ w2 a1 (fun r2 a2 => w3 a2 (fun r3 a3 => onO (con a3 (hold r1)) fun x => onO (con a3 (hold r2)) fun y => onO (lookD x y) fun o => match o with
  | some d => q (.dat d) a3
  | none => q r3 a3) qe) qe) qe
theorem se_dget2 {o e f : Expr} {apos cpos : Pos} (hu : X.A.units + 1 < cLine) (h1 : SE X W o ta w1) (h2 : SE X W e tb w2) (h3 : SE X W f tc w3) (m : M2 X o "get" apos e f cpos) : SE X W (.Call (.Attribute o "get" apos) [e, f] [] cpos) (tDGet2 ta tb tc) (wDGet2 w1 w2 w3) := by
  obtain ⟨p1, s1⟩ := h1
  obtain ⟨p2, s2⟩ := h2
  obtain ⟨p3, s3⟩ := h3
  refine ⟨pe_dget2 hu p1 p2 p3 m, fun E F H σ a Q q qe R hw l lx => ?_⟩
  refine s1 E F H σ a _ _ qe R hw (fun v1 r1 F1 H1 a1 e1 R1 rp1 hw1 => ?_) lx
  obtain ⟨x, c1, hd, hw1⟩ := onO_iff.mp hw1
  have hx := rd_of R1 rp1 c1
  have hp : ∃ p, v1 = .ref p ∧ IsD H1 p := by
    cases x with
    | dK ds => obtain ⟨p, vs, rfl, hp, _⟩ := dk_of R1.ext hx; exact ⟨p, rfl, .inl ⟨_, .of hp⟩⟩
    | dT ds => obtain ⟨p, vs, rfl, hp, _⟩ := dt_of R1.ext hx; exact ⟨p, rfl, .inr ⟨_, .of hp⟩⟩
    | _ => cases hd
  obtain ⟨p, rfl, hp⟩ := hp
  obtain ⟨F1', e1', R1', rp1'⟩ := hold_ok R1 rp1
  refine ⟨p, rfl, hp, s2 E F1' H1 σ a1 _ _ qe R1' hw1 (fun v2 r2 F2 H2 a2 e2 R2 rp2 hw2 => ?_) (lx.to (e1.trans e1'))⟩
  obtain ⟨F2', e2', R2', rp2'⟩ := hold_ok R2 rp2
  refine s3 E F2' H2 σ a2 _ _ qe R2' hw2 (fun v3 r3 F3 H3 a3 e3 R3 rp3 hw3 => ?_) (lx.to (((e1.trans e1').trans e2).trans e2'))
  obtain ⟨x', c1', hw3⟩ := onO_iff.mp hw3
  obtain ⟨y, c2, hw3⟩ := onO_iff.mp hw3
  obtain ⟨ov, hl, hw3⟩ := onO_iff.mp hw3
  obtain ⟨a', v, ea, g, _, g1, g2⟩ := look_ok R3.ext (rd_of R3 (held_on (H' := H3) (a' := a3) ((e2.trans e2').trans e3) rp1') c1') (rd_of R3 (held_on (H' := H3) (a' := a3) e3 rp2') c2) hl
  cases ea
  refine ⟨v, g, ?_⟩
  have e := (((e1.trans e1').trans e2).trans e2').trans e3
  cases ov with
  | some d =>
    obtain ⟨u, rfl, ru⟩ := g1 d rfl
    exact l u (.dat d) F3 H3 a3 e R3 ru hw3
  | none =>
    rw [g2 rfl]
    exact l v3 r3 F3 H3 a3 e R3 rp3 hw3
end
/-! ### x in l, of any data -/
@[irreducible] def inH (x y : D) (k : Bool → Prop) : Prop := ∃ d ds, pyd x = some d ∧ pyd y = some (.list ds) ∧ SeqAt.shaped d = true ∧ SeqAt.shaped (.list ds) = true ∧ k (ds.any fun z => PyData.eqv z d)
def dInD : DOp := fun x y k => inH x y fun b => k (.dat (.bl b))
def dNotInD : DOp := fun x y k => inH x y fun b => k (.dat (.bl (!b)))
theorem dInD_ok {K : PySem.W.Frag} : OpS K (rInD K) dInD := by
  intro E F H σ a v1 v2 x y Q k R h1 h2 ho l
  unfold dInD inH at ho
  obtain ⟨d, ds, e1, e2, s1, s2, hk⟩ := ho
  exact ⟨d, ds, dp_rd R.ext h1 e1, dp_rd R.ext h2 e2, s1, s2, l _ (.dat _) F H (Same.refl F) R (Rep.bl _) hk⟩
theorem dNotInD_ok {K : PySem.W.Frag} : OpS K (rNotInD K) dNotInD := by
  intro E F H σ a v1 v2 x y Q k R h1 h2 ho l
  unfold dNotInD inH at ho
  obtain ⟨d, ds, e1, e2, s1, s2, hk⟩ := ho
  exact ⟨d, ds, dp_rd R.ext h1 e1, dp_rd R.ext h2 e2, s1, s2, l _ (.dat _) F H (Same.refl F) R (Rep.bl _) hk⟩
theorem pyds_any {n : Nat} {x : D} {p : PyData} (hx : Nb n x) (e : pyd x = some p) : ∀ (ys : List D) (ps : List PyData), (∀ y ∈ ys, Nb n y) → pyds ys = some ps → ((ps.any fun z => PyData.eqv z p) = true ↔ x ∈ ys)
  | [], ps, _, h => by cases h; simp
  | y :: ys, ps, hn, h => by
    obtain ⟨q, qs, rfl, a, b⟩ := pyds_cons h
    rw [List.any_cons, Bool.or_eq_true, nb_eqv n y x (hn y (List.mem_cons_self ..)) hx q p a e, pyds_any hx e ys qs (fun z hz => hn z (List.mem_cons_of_mem _ hz)) b, List.mem_cons]
    constructor
    · rintro (h | h)
      · exact .inl h.symm
      · exact .inr h
    · rintro (h | h)
      · exact .inl h.symm
      · exact .inr h
/-- x in l, over data of numbers and texts -/
theorem in_nb {n : Nat} {x : D} {ys : List D} {k : Bool → Prop} (hx : Nb n x) (hy : ∀ y ∈ ys, Nb n y) (hn : n ≤ 60) (h1 : x ∈ ys → k true) (h2 : x ∉ ys → k false) : inH x (.lst ys) k := by
  obtain ⟨p, e1, c1, d1⟩ := nb_pyd n x hx
  obtain ⟨q, e2, c2, d2⟩ := nb_pyd (n + 1) (.lst ys) hy
  obtain ⟨qs, e3, rfl⟩ : ∃ qs, pyds ys = some qs ∧ q = .list qs := by
    rw [pyd] at e2
    obtain ⟨qs, e3, rfl⟩ := Option.map_eq_some_iff.mp e2
    exact ⟨qs, e3, rfl⟩
  have he := pyds_any hx e1 ys qs hy e3
  have hk : k (qs.any fun z => PyData.eqv z p) := by
    by_cases h : x ∈ ys
    · rw [he.mpr h]; exact h1 h
    · have : (qs.any fun z => PyData.eqv z p) = false := by
        cases hb : qs.any fun z => PyData.eqv z p
        · rfl
        · exact absurd (he.mp hb) h
      rw [this]; exact h2 h
  unfold inH
  refine ⟨p, qs, e1, e2, ?_, ?_, hk⟩
  · unfold SeqAt.shaped; rw [c1, decide_eq_true (by omega)]; rfl
  · unfold SeqAt.shaped; rw [c2, decide_eq_true (by omega)]; rfl
theorem hu65_of {k : Nat} {A : Around} (r : Room k A) : A.units + 65 < cLine := by have := r.un; omega
/-- len of a dict of tuples -/
def dLenT : DCall := fun ds k => match ds with
  | [.dT kvs] => k (.dat (.int kvs.length))
  | _ => False
theorem dLenT_ok {K : PySem.W.Frag} : CallS K rLenT dLenT := by
  intro E F H σ a vs ds Q k R h ho l
  unfold dLenT at ho
  split at ho
  · cases h with
    | cons h t =>
      cases t
      obtain ⟨p, ws, rfl, hp, r⟩ := dt_of R.ext h
      exact ⟨p, ws, rfl, hp, by rw [r.len]; exact l _ (.dat _) F H (Same.refl F) R (Rep.int _) ho⟩
  · exact ho.elim
/-! ### a text, several times -/
def rSMul : R2 := fun x y H Q => ∃ z k, x = .str z ∧ y = .int k ∧ MulOk z k ∧ Q (.str (Txt.mul z k)) H
theorem op_smul {X : Cx} : OpR X (binaryOp .Mult) rSMul := by
  intro pins s σ H x y v u Q I rx ry h
  obtain ⟨z, k, rfl, rfl, hok, q⟩ := h
  obtain ⟨t, rfl⟩ := rx
  obtain ⟨t', rfl⟩ := ry
  exact PySem.SB.mul hok fun t2 k2 => ⟨.str _, H, I.tok _, ⟨t2, rfl⟩, q⟩
def rMulS : R2 := fun x y H Q => rMulA x y H Q ∨ rSMul x y H Q
theorem op_mulS {X : Cx} : OpR X (binaryOp .Mult) rMulS := op_mulA.or op_smul
def dMulS : DOp := fun x y k => match x, y with
  | .str z, .int n => MulOk z n ∧ k (.dat (.str (Txt.mul z n)))
  | x, y => dMul x y k
theorem dMulS_ok {K : PySem.W.Frag} : OpS K rMulS dMulS := by
  intro E F H σ a v1 v2 x y Q k R h1 h2 ho l
  unfold dMulS at ho
  split at ho
  · exact .inr ⟨_, _, h1.str, h2.int, ho.1, l _ (.dat _) F H (Same.refl F) R (Rep.str _) ho.2⟩
  · exact .inl (dMul_ok E F H σ a v1 v2 _ _ Q k R h1 h2 ho l)
end DS

namespace DS
open PySem PySem.Spec PyProof.Rows L2
/-! ### a comprehension over a list that may be lent -/
@[irreducible] def lcL (k : Nat) (items : List D) (vs : List Nat) (wg : WG) (wt : WT) (we : WE) (a1 : PSt) (q : Res → PSt → Prop) : Prop := ∃ Inv : Nat → List D → PSt → Prop, Inv 0 [] a1 ∧ (∀ i acc a2, Inv i acc a2 → a2[k]? = some (some ⟨.lent, .lst items⟩)) ∧
  (∀ i acc a2 d, items[i]? = some d → Inv i acc a2 → wg d (wipeA a2 vs) fun a3 => wt a3 (fun b a4 => br b
    (we a4 (fun r a5 => fz r a5 fun y a6 => acc.length < sizeLine ∧ Inv (i + 1) (acc ++ [y]) (wipeA a6 vs)) (fun _ _ => False)) (Inv (i + 1) acc (wipeA a4 vs))) (fun _ _ => False)) ∧
  ∀ acc a2, Inv items.length acc a2 → q (.new (.lst acc)) (keepNo a1 vs a2)
theorem lc_l {k : Nat} {items : List D} {vs : List Nat} {wg : WG} {wt : WT} {we : WE} {a1 : PSt} {q : Res → PSt → Prop} (Inv : Nat → List D → PSt → Prop) (h0 : Inv 0 [] a1) (hk : ∀ i acc a2, Inv i acc a2 → a2[k]? = some (some ⟨.lent, .lst items⟩))
    (hs : ∀ i acc a2 d, items[i]? = some d → Inv i acc a2 → wg d (wipeA a2 vs) fun a3 => wt a3 (fun b a4 => br b
    (we a4 (fun r a5 => fz r a5 fun y a6 => acc.length < sizeLine ∧ Inv (i + 1) (acc ++ [y]) (wipeA a6 vs)) (fun _ _ => False)) (Inv (i + 1) acc (wipeA a4 vs))) (fun _ _ => False))
    (he : ∀ acc a2, Inv items.length acc a2 → q (.new (.lst acc)) (keepNo a1 vs a2)) : lcL k items vs wg wt we a1 q := by unfold lcL; exact ⟨Inv, h0, hk, hs, he⟩
def wLcN (k : Nat) (vs : List Nat) (wg : WG) (wt : WT) (we : WE) : WE := fun a q qe => match lentAt a k with
  | some items => lcL k items vs wg wt we a q
  | none => wLc (wiSeq (wVar k)) vs wg wt we a q qe
theorem lcN_ok {X : Cx} {W : L2.St → XK} {k : Nat} {e0 : Expr} (hE : PE X e0 (tVar k)) {g : TG} {wg : WG} {tt : TT} {wt : WT} {te : TE} {we : WE} {vs sl : List Nat}
    (hg : ∀ E F H σ a v d Q q, Rel X.K E F H σ a → Rep X.K F v d → wg d a q → (∀ σ' a', Only sl σ σ' → Rel X.K E F H σ' a' → q a' → Q σ' H) → g v σ H Q) (hsl : ∀ j ∈ sl, j ∈ vs)
    (ht : ∀ E F H σ a Q q qe, Rel X.K E F H σ a → wt a q qe → Lt X.K E F σ q Q → Lx X.K E F σ qe (W0 σ) → tt σ H Q)
    (he : ∀ E F H σ a Q q qe, Rel X.K E F H σ a → we a q qe → Ln X.K E F σ q Q → Lx X.K E F σ qe (W0 σ) → te σ H Q) :
    ∀ E F H σ a Q q qe, Rel X.K E F H σ a → wLcN k vs wg wt we a q qe → Ln X.K E F σ q Q → Lx X.K E F σ qe (W σ) → tLc (iList X.K (tVar k)) g tt te vs σ H Q := by
  intro E F H σ a Q q qe R hw l lx
  unfold wLcN at hw
  split at hw
  case h_2 => exact lc_ok (fun E F H σ a R q qe => (si_list (tg := .Name "" ⟨0, 0, 0, 0⟩) (se_var hE)).2 E F H σ a R q qe) hg hsl ht he E F H σ a Q q qe R hw l lx
  rename_i items hl
  have hl := lentAt_some hl
  unfold lcL at hw
  obtain ⟨Inv, h0, hk, hst, hend⟩ := hw
  obtain ⟨v, hσ, p, rfl, hF, hLp, hv, hT⟩ := R.sl k _ hl
  have seq : ∀ {E2 : En} {F2 H2 : Hp} {a2 : PSt}, E2.vs = E.vs → Rel X.K E2 F2 H2 σ a2 → a2[k]? = some (some ⟨.lent, .lst items⟩) → ∃ xs, H2 p = some (.lst xs) ∧ Reps X.K F2 xs items := by
    intro E2 F2 H2 a2 ee R2 h2
    obtain ⟨v2, _, p2, rfl, _, _, hv2, o, ho, t⟩ := R2.sl k _ h2
    have e : p2 = p := by rw [ee, hv] at hv2; cases hv2; rfl
    subst e
    cases t with
    | lst r => exact ⟨_, ho, r⟩
  obtain ⟨xs0, hp1, _⟩ := seq rfl R hl
  refine ⟨.ref p, hσ, p, rfl, ⟨xs0, SqL.of hp1⟩, ?_⟩
  have R1 := R
  have e1 : Same F F := Same.refl F
  intro Dd hD
  obtain ⟨f1, f2, f3⟩ := R1.fresh hD
  have hL : ¬ E.L Dd := fun z => R1.lt Dd z f2
  have hF0 : E.F Dd = none := R1.f0.free f1
  refine ⟨fun i m H' => m = items.length - i ∧ i ≤ items.length ∧ ∃ F2 a2 accV acc, Same F F2 ∧ Rel X.K (E.side Dd (.lst accV)) F2 H' σ a2 ∧ Reps X.K F2 accV acc ∧ Inv i acc a2,
    ⟨_, rfl, Nat.zero_le _, F, a, [], [], Same.refl F, (R1.lay (.lst []) hD).toSide f1 f2 f3 upd_same, .nil, h0⟩, ?_⟩
  rintro i m H' ⟨rfl, hi', F2, a2, accV, acc, s2, R2, racc, hinv⟩
  by_cases hlt : i < items.length
  · obtain ⟨xs, hp2, rp2⟩ := seq (E2 := E.side Dd (.lst accV)) rfl R2 (hk i acc a2 hinv)
    have hlv : i < xs.length := by rw [rp2.length]; exact hlt
    refine .inr ⟨⟨xs, xs[i], SqL.of hp2, List.getElem?_eq_getElem hlv⟩, fun H3 => ∃ F3 a3 accV acc, Same F F3 ∧ Rel X.K (E.side Dd (.lst accV)) F3 H3 σ a3 ∧ Reps X.K F3 accV acc ∧ Inv (i + 1) acc a3,
      fun H3 ⟨F3, a3, av, ac, s3, R3, r3, h3⟩ => ⟨items.length - (i + 1), by omega, rfl, hlt, F3, a3, av, ac, s3, R3, r3, h3⟩, fun x H3 y => ?_⟩
    obtain ⟨rfl, y⟩ := y
    obtain ⟨d, hd, rp⟩ := rp2.get (y xs (SqL.of hp2))
    obtain ⟨F3, s3, eF⟩ : ∃ F3, Same F2 F3 ∧ F3 = F2 := ⟨F2, Same.refl F2, rfl⟩
    subst eF
    have R3 := R2
    refine hg _ F3 H3 (L2.wipe σ vs) (wipeA a2 vs) x d _ _ (R3.wipe vs) rp (hst i acc a2 d hd hinv) fun σ4 a4 o4 R4 hq4 => ⟨wipe_only o4 hsl, ?_⟩
    have back : ∀ {F5 H5 : Hp} {a5 : PSt} {EE : En}, Rel X.K EE F5 H5 σ4 a5 → Rel X.K EE F5 H5 σ (wipeA a5 vs) := fun {F5 H5 a5 EE} R5 => by
      refine R5.less (by rw [wipeA_length, R5.len, o4.1, L2.wipe_length]) fun j av e => ?_
      obtain ⟨h1, h2⟩ := wipeA_some e
      refine ⟨h1, ?_⟩
      rw [o4.2 j fun z => h2 (hsl j z), L2.wipe_out h2]
    refine ht _ F3 H3 σ4 a4 _ _ _ R4 hq4 (fun b F5 H5 a5 e5 R5 q5 => ?_) (fun x a c dx F5 H5 _ _ _ z => z)
    cases b with
    | false =>
      rw [if_neg Bool.false_ne_true]
      exact ⟨F5, _, accV, acc, (s2.trans s3).trans e5, back R5, (racc.mono s3).mono e5, br_ff q5 rfl⟩
    | true =>
      rw [if_pos rfl]
      refine he _ F5 H5 σ4 a5 _ _ _ R5 (br_tt q5 rfl) (fun v r F6 H6 a6 e6 R6 rp6 q6 => ?_) (fun x a c dx F5 H5 _ _ _ z => z)
      obtain ⟨F7, a7, yd, s7, R7, rp7, hz, hinv'⟩ := fz_ok R6 rp6 q6
      have R8 := back R7
      obtain ⟨R9, g1, g2, g3⟩ := R8.ofSide f2 hL hF0
      have sAll : Same F3 F7 := (e5.trans e6).trans s7
      have racc' : Reps X.K F7 accV acc := (racc.mono s3).mono sAll
      refine ⟨accV, g3, by rw [racc'.length]; exact hz, F7, _, accV ++ [v], acc ++ [yd], (s2.trans s3).trans sAll, ?_, racc'.append (.cons rp7 .nil), hinv'⟩
      have R10 : Rel X.K E F7 (upd H6 Dd (.lst (accV ++ [v]))) σ (wipeA a7 vs) := by
        refine ⟨fun b u e => ?_, R9.f0, R9.new, fun b u e l' => ?_, fun b e => ?_, R9.lt, R9.len, fun j av e => ?_, R9.dis⟩
        · rw [upd_ne (ne_of_none e g1)]; exact R9.ext _ _ e
        · rw [upd_ne (ne_of_none e f2)]; exact R9.keep _ _ e l'
        · by_cases hb : b = Dd
          · rw [hb]; exact f2
          · rw [upd_ne hb] at e; exact R9.dom _ e
        · obtain ⟨u, e1', q⟩ := R9.sl j av e
          refine ⟨u, e1', ?_⟩
          have hne : ∀ p, u = .ref p → av.o ≠ .no → p ≠ Dd := fun p hp ho z => g2 ⟨j, av, e, ho, by rw [e1', hp, z]⟩
          obtain ⟨ow, cc⟩ := av
          cases ow with
          | no => exact q
          | own => obtain ⟨p, rfl, h1, h2, o, h3, h4⟩ := q; exact ⟨p, rfl, h1, h2, o, by rw [upd_ne (hne p rfl (by simp))]; exact h3, h4⟩
          | lent => obtain ⟨p, rfl, h1, h2, h5, o, h3, h4⟩ := q; exact ⟨p, rfl, h1, h2, h5, o, by rw [upd_ne (hne p rfl (by simp))]; exact h3, h4⟩
      exact R10.toSide g1 f2 g2 upd_same
  · have e : i = items.length := by omega
    subst e
    obtain ⟨R3, g1, g2, g3⟩ := R2.ofSide f2 hL hF0
    obtain ⟨xs, hp2, rp2⟩ := seq (E2 := E.side Dd (.lst accV)) rfl R2 (hk _ acc a2 hinv)
    refine .inl ⟨⟨xs, SqL.of hp2, by rw [rp2.length]; exact Nat.le_refl _⟩, ?_⟩
    have R4 := Rel.keepNo R1 s2 R3 vs
    refine l (.ref Dd) (.new (.lst acc)) F2 H' _ (e1.trans s2) R4 ⟨Dd, rfl, g1, f2, ⟨_, g3, .lst racc⟩, fun ⟨j, av, h1, h2, h3⟩ => ?_⟩ (hend acc a2 hinv)
    -- what keepNo owns, a2 owns
    have kn : ∀ (ws : List Nat) (j : Nat) (av : AV), (keepNo a ws a2)[j]? = some (some av) → av.o ≠ .no → a2[j]? = some (some av) := by
      intro ws
      induction ws with
      | nil => exact fun j av h _ => h
      | cons v ws ih =>
        intro j av h ho
        unfold keepNo at h
        by_cases hv : v = j
        · subst hv
          have hl := (List.getElem?_eq_some_iff.mp h).1
          rw [List.length_set] at hl
          rw [List.getElem?_set_self hl] at h
          split at h
          · cases h; exact absurd rfl ho
          · cases h
        · rw [List.getElem?_set_ne hv] at h
          exact ih j av h ho
    exact g2 ⟨j, av, kn vs j av h1 h2, h2, h3⟩
section
variable {X : Cx} {W : L2.St → XK}
theorem se_lcN {k : Nat} {elt tg iter : Expr} {ifs : List Expr} {scope : Scope} {own : List (Str × Nat)} {pos : Pos} {wg : WG} {wt : WT} {we : WE} {sl : List Nat} (hc : X.calm = true) (hN : X.N.Nodup) (hi : PE X iter (tVar k)) (ok : BlkOk X.N X.env.scope scope own)
    (hg : ∀ (s : Shared) (H : Hp) (C : Addr) (cl : List (Str × Addr)) (fp : List Addr), ∃ g, SG (X.blk s H scope (compEnvC scope cl C X.env) fp) tg g wg sl) (hsl : ∀ j ∈ sl, j ∈ own.map (·.2))
    (ht : ∀ (s : Shared) (H : Hp) (C : Addr) (cl : List (Str × Addr)) (fp : List Addr), ∃ t, STs (X.blk s H scope (compEnvC scope cl C X.env) fp) W0 ifs t wt)
    (he : ∀ (s : Shared) (H : Hp) (C : Addr) (cl : List (Str × Addr)) (fp : List Addr), ∃ t, SE (X.blk s H scope (compEnvC scope cl C X.env) fp) W0 elt t we) (hs : ∀ x, foldedSetIterable iter X.env x = pure x := by intro _; rfl) :
    SE X W (.ListComp elt [⟨tg, iter, ifs, 0⟩] scope pos) (tLc (iList X.K (tVar k)) (gG X.K wg sl) (tT X.K W0 wt) (tE X.K W0 we) (own.map (·.2))) (wLcN k (own.map (·.2)) wg wt we) :=
  ⟨pe_lc hc hN (pi_list hi) ok (fun s H C cl fp => let ⟨_, h⟩ := hg s H C cl fp; h.own) (fun s H C cl fp => let ⟨_, h⟩ := ht s H C cl fp; h.own) (fun s H C cl fp => let ⟨_, h⟩ := he s H C cl fp; h.own) hs,
    lcN_ok hi (fun E F H σ a v d Q q R rp hw l => ⟨E, F, a, d, q, R, rp, hw, l⟩) hsl (fun E F H σ a Q q qe R hw l lx => ⟨E, F, a, q, qe, R, hw, l, lx⟩) (fun E F H σ a Q q qe R hw l lx => ⟨E, F, a, q, qe, R, hw, l, lx⟩)⟩
theorem ss_setLcN {k : Nat} {i : Nat} {y : Str} {py : Pos} {elt tg iter : Expr} {ifs : List Expr} {scope : Scope} {own : List (Str × Nat)} {pos spos : Pos} {wg : WG} {wt : WT} {we : WE} {sl : List Nat} (hc : X.calm = true) (hN : X.N.Nodup) (hy : X.N[i]? = some y) (hyl : X.env.scope.names.lookup y = some .local)
    (hsw : swapsWith (.ListComp elt [⟨tg, iter, ifs, 0⟩] scope pos) (some (.Name y py)) spos.line X.env = pure true) (hi : PE X iter (tVar k)) (ok : BlkOk X.N X.env.scope scope own)
    (hg : ∀ (s : Shared) (H : Hp) (C : Addr) (cl : List (Str × Addr)) (fp : List Addr), ∃ g, SG (X.blk s H scope (compEnvC scope cl C X.env) fp) tg g wg sl) (hsl : ∀ j ∈ sl, j ∈ own.map (·.2))
    (ht : ∀ (s : Shared) (H : Hp) (C : Addr) (cl : List (Str × Addr)) (fp : List Addr), ∃ t, STs (X.blk s H scope (compEnvC scope cl C X.env) fp) W0 ifs t wt)
    (he : ∀ (s : Shared) (H : Hp) (C : Addr) (cl : List (Str × Addr)) (fp : List Addr), ∃ t, SE (X.blk s H scope (compEnvC scope cl C X.env) fp) W0 elt t we) (hs : ∀ x, foldedSetIterable iter X.env x = pure x := by intro _; rfl) :
    SS X W (.Assign [.Name y py] (.ListComp elt [⟨tg, iter, ifs, 0⟩] scope pos) spos) (tAsg (tLc (iList X.K (tVar k)) (gG X.K wg sl) (tT X.K W0 wt) (tE X.K W0 we) (own.map (·.2))) (gName i)) (wSet i (wLcN k (own.map (·.2)) wg wt we)) := by
  refine ⟨ps_setLc hc hN hy hyl hsw (pi_list hi) ok (fun s H C cl fp => let ⟨_, h⟩ := hg s H C cl fp; h.own) (fun s H C cl fp => let ⟨_, h⟩ := ht s H C cl fp; h.own) (fun s H C cl fp => let ⟨_, h⟩ := he s H C cl fp; h.own) hs, fun E F H σ a D DA R hw l => ?_⟩
  refine lcN_ok (W := W) hi (fun E F H σ a v d Q q R rp hw l => ⟨E, F, a, d, q, R, rp, hw, l⟩) hsl (fun E F H σ a Q q qe R hw l lx => ⟨E, F, a, q, qe, R, hw, l, lx⟩) (fun E F H σ a Q q qe R hw l lx => ⟨E, F, a, q, qe, R, hw, l, lx⟩) E F H σ a _ _ _ R hw (fun v r F' H' a' e R' rp q => ?_) (l.ex σ)
  obtain ⟨F2, a2, s, R2, hk⟩ := sto_ok R' rp q
  exact l.nx _ F2 H' a2 (e.trans s) R2 hk
end
section
variable {X : Cx} {W : L2.St → XK} {b e : Expr} {pos : Pos} {tb ta : TE} {wk w : WE}
/-- x.insert(k, e) -/
def wIns (i : Nat) (wk w : WE) : WS := fun D a => onOwn a[i]? fun _ _ => wk a (fun rk a1 => onI (con a1 rk) fun j => w a1 (fun r a2 => fz r a2 fun d a3 => onOwn a3[i]? fun o xs =>
  (xs.length < sizeLine ∧ 0 ≤ j ∧ j < 2 ^ 63) ∧ D.nx (a3.set i (some ⟨o, .lst (xs.take j.toNat ++ [d] ++ xs.drop j.toNat)⟩))) D.ex) D.ex
theorem ss_insert {i : Nat} {o : Expr} {apos cpos : Pos} (ho : PE X o (tVar i)) (hk : SE X W b tb wk) (h : SE X W e ta w) (hbase : attributeBase o "insert" X.env (eval o X.env) = eval o X.env := by rfl)
    (hfew : ((backTo cpos (starEach [b, e] X.env)).all (fun x => !x.1) && (backToKw cpos (keywordEach [] X.env)).all (fun x => x.1.isSome) && decide (([b, e] : List Expr).length + ([] : List Keyword).length + (if ([] : List Keyword).isEmpty then 0 else 1) < 30)) = true := by rfl)
    (hline : (apos.endLine == cpos.line) = true := by rfl) (hst : starEach [b, e] X.env = (false, eval b X.env) :: starEach [e] X.env := by rfl) (hst2 : starEach [e] X.env = (false, eval e X.env) :: starEach [] X.env := by rfl) (hplain : (backTo cpos (starEach [e] X.env)).any (·.1) = false := by rfl)
    (hs : swapsWith (.Call (.Attribute o "insert" apos) [b, e] [] cpos) none pos.line X.env = pure false := by rfl) :
    SS X W (.Expr (.Call (.Attribute o "insert" apos) [b, e] [] cpos) pos) (tDrop (tBM X.K "list" (fun x vs H Q => ∃ (l : Addr) (xs : List V) (i : Int) (y : V), x = .ref l ∧ vs = [.int i, y] ∧ H l = some (.lst xs) ∧ xs.length < sizeLine ∧ 0 ≤ i ∧ i < 2 ^ 63 ∧
    Q .non (upd H l (.lst (xs.take i.toNat ++ [y] ++ xs.drop i.toNat)))) (tVar i) (tCons tb (tCons ta tNil)))) (wIns i wk w) := by
  refine ⟨ps_expr (pe_bm PySem.F.plainAttrs_list PySem.F.slot_list_insert PySem.F.type_list_insert mt_insert ho (pa_cons hk.1 (pa_cons h.1 pa_nil hst2) hst) hbase hfew hline hst hplain) hs, fun E F H σ a D DA R hw l => ?_⟩
  obtain ⟨o, xs, ha, _, hw⟩ := onOwn_iff.mp hw
  obtain ⟨p, vs, hv, hp, _⟩ := slot_list R ha
  refine ⟨.ref p, hv, .inl ⟨rfl, vs, .of hp⟩, hk.2 E F H σ a _ _ _ R hw (fun uk rk F1 H1 a1 e1 R1 rpk q1 => ?_) (l.ex σ)⟩
  obtain ⟨j, c, q1⟩ := onI_iff.mp q1
  obtain rfl := (rd_of R1 rpk c).int
  refine h.2 E F1 H1 σ a1 _ _ _ R1 q1 (fun u r F' H' a' e R' rp q => ?_) ((l.ex σ).to e1)
  obtain ⟨F2, a2, d, s, R2, rp2, q2⟩ := fz_ok R' rp q
  obtain ⟨o', ys, h2, ho', ⟨hz, h0, h1⟩, hk'⟩ := onOwn_iff.mp q2
  obtain ⟨p', ws, hv', hp', r'⟩ := slot_list R2 h2
  rw [hv] at hv'
  cases hv'
  refine ⟨p, ws, j, u, rfl, rfl, hp', by rw [r'.length]; exact hz, h0, h1, ?_⟩
  exact l.nx _ F2 _ _ ((e1.trans e).trans s) (R2.write h2 ho' hv (.lst (((r'.take _).append (.cons rp2 .nil)).append (r'.drop _)))) hk'
end
/-! ### is True, is not True, of a bool -/
def rIsB (neg : Bool) : R2 := fun x y H Q => ∃ a b, x = .bl a ∧ y = .bl b ∧ Q (.bl (if neg then !decide (a = b) else decide (a = b))) H
theorem op_isB {X : Cx} : OpR X (compareOp .Is) (rIsB false) := by
  intro pins s σ H x y v u Q I rx ry h
  obtain ⟨a, b, rfl, rfl, q⟩ := h
  cases rx
  cases ry
  cases a <;> cases b <;> exact wpAny_pure ⟨.bl _, H, I, rfl, q⟩
theorem op_notB {X : Cx} : OpR X (compareOp .IsNot) (rIsB true) := by
  intro pins s σ H x y v u Q I rx ry h
  obtain ⟨a, b, rfl, rfl, q⟩ := h
  cases rx
  cases ry
  cases a <;> cases b <;> exact wpAny_pure ⟨.bl _, H, I, rfl, q⟩
def dIsB : DOp := fun x y k => match x, y with
  | .bl a, .bl b => k (.dat (.bl (decide (a = b))))
  | _, _ => False
def dNotB : DOp := fun x y k => match x, y with
  | .bl a, .bl b => k (.dat (.bl (!decide (a = b))))
  | _, _ => False
theorem dIsB_ok {K : PySem.W.Frag} : OpS K (rIsB false) dIsB := by
  intro E F H σ a v1 v2 x y Q k R h1 h2 ho l
  unfold dIsB at ho
  split at ho
  · exact ⟨_, _, h1.bl, h2.bl, l _ (.dat _) F H (Same.refl F) R (Rep.bl _) ho⟩
  · exact ho.elim
theorem dNotB_ok {K : PySem.W.Frag} : OpS K (rIsB true) dNotB := by
  intro E F H σ a v1 v2 x y Q k R h1 h2 ho l
  unfold dNotB at ho
  split at ho
  · exact ⟨_, _, h1.bl, h2.bl, l _ (.dat _) F H (Same.refl F) R (Rep.bl _) ho⟩
  · exact ho.elim
end DS

namespace DS
open PySem PySem.Spec PyProof.Rows L2
/-! ### loops whose invariant speaks of the state ahead of them -/
theorem for_v {items : List D} {wg : WG} {wb : WS} {D : EndsA} {a : PSt} (J : Nat → PSt → PSt → Prop) (h0 : J 0 a a)
    (hs : ∀ i a2 d, items[i]? = some d → J i a a2 → wg d a2 fun a3 => wb { D with nx := J (i + 1) a, ct := J (i + 1) a, bk := D.nx } a3) (he : ∀ a2, J items.length a a2 → D.nx a2) : forS items wg wb D a :=
  for_i (fun i a2 => J i a a2) h0 hs he
theorem for_rv {lo : Int} {n : Nat} {wg : WG} {wb : WS} {D : EndsA} {a : PSt} (J : Nat → PSt → PSt → Prop) (h0 : J 0 a a)
    (hs : ∀ i a2, i < n → J i a a2 → wg (.int (lo + i)) a2 fun a3 => wb { D with nx := J (i + 1) a, ct := J (i + 1) a, bk := D.nx } a3) (he : ∀ a2, J n a a2 → D.nx a2) : forS (rangeD lo n) wg wb D a :=
  for_r (fun i a2 => J i a a2) h0 hs he
theorem for_lv {k : Nat} {items : List D} {wg : WG} {wb : WS} {D : EndsA} {a : PSt} (J : Nat → PSt → PSt → Prop) (h0 : J 0 a a) (hk : ∀ i a2, J i a a2 → a2[k]? = some (some ⟨.lent, .lst items⟩))
    (hs : ∀ i a2 d, items[i]? = some d → J i a a2 → wg d a2 fun a3 => wb { D with nx := J (i + 1) a, ct := J (i + 1) a, bk := D.nx } a3) (he : ∀ a2, J items.length a a2 → D.nx a2) : forL k items wg wb D a :=
  for_l (fun i a2 => J i a a2) h0 hk hs he
theorem while_v {wt : WT} {wb : WS} {D : EndsA} {a : PSt} (J : Nat → PSt → PSt → Prop) (m : Nat) (h0 : J m a a)
    (hs : ∀ m a1, J m a a1 → wt a1 (fun k a2 => br k (wb { D with nx := fun a3 => ∃ m', m' < m ∧ J m' a a3, ct := fun a3 => ∃ m', m' < m ∧ J m' a a3, bk := D.nx } a2) (D.nx a2)) D.ex) : whileS wt wb D a :=
  while_i (fun m a1 => J m a a1) m h0 hs
theorem lc_v {items : List D} {vs : List Nat} {wg : WG} {wt : WT} {we : WE} {a1 : PSt} {q : Res → PSt → Prop} (J : Nat → List D → PSt → PSt → Prop) (h0 : J 0 [] a1 a1)
    (hs : ∀ i acc a2 d, items[i]? = some d → J i acc a1 a2 → wg d (wipeA a2 vs) fun a3 => wt a3 (fun b a4 => br b
    (we a4 (fun r a5 => fz r a5 fun y a6 => acc.length < sizeLine ∧ J (i + 1) (acc ++ [y]) a1 (wipeA a6 vs)) (fun _ _ => False)) (J (i + 1) acc a1 (wipeA a4 vs))) (fun _ _ => False))
    (he : ∀ acc a2, J items.length acc a1 a2 → q (.new (.lst acc)) (keepNo a1 vs a2)) : lcS items vs wg wt we a1 q :=
  lc_i (fun i acc a2 => J i acc a1 a2) h0 hs he
theorem lc_rv {lo : Int} {n : Nat} {vs : List Nat} {wg : WG} {wt : WT} {we : WE} {a1 : PSt} {q : Res → PSt → Prop} (J : Nat → List D → PSt → PSt → Prop) (h0 : J 0 [] a1 a1)
    (hs : ∀ i acc a2, i < n → J i acc a1 a2 → wg (.int (lo + i)) (wipeA a2 vs) fun a3 => wt a3 (fun b a4 => br b
    (we a4 (fun r a5 => fz r a5 fun y a6 => acc.length < sizeLine ∧ J (i + 1) (acc ++ [y]) a1 (wipeA a6 vs)) (fun _ _ => False)) (J (i + 1) acc a1 (wipeA a4 vs))) (fun _ _ => False))
    (he : ∀ acc a2, J n acc a1 a2 → q (.new (.lst acc)) (keepNo a1 vs a2)) : lcS (rangeD lo n) vs wg wt we a1 q :=
  lc_i (fun i acc a2 => J i acc a1 a2) h0 (fun i acc a2 d h hi => by
    obtain ⟨h1, rfl⟩ := rangeD_get.mp h
    exact hs i acc a2 h1 hi) (fun acc a2 h => he acc a2 (by rw [rangeD_len] at h; exact h))
theorem wipe_set {v : Nat} {u : Option AV} : ∀ {a : PSt} {vs : List Nat}, v ∈ vs → wipeA (a.set v u) vs = wipeA a vs
  | a, w :: vs, h => by
    unfold wipeA
    by_cases e : v = w
    · subst e
      by_cases h2 : v ∈ vs
      · rw [wipe_set h2]
      · have : ∀ (vs : List Nat), v ∉ vs → wipeA (a.set v u) vs = (wipeA a vs).set v u := by
          intro vs
          induction vs with
          | nil => intro _; rfl
          | cons x vs ih =>
            intro hn
            rw [List.mem_cons, not_or] at hn
            unfold wipeA
            rw [ih hn.2]
            exact List.set_comm _ _ hn.1
        rw [this vs h2, List.set_set]
    · rw [wipe_set (by rcases List.mem_cons.mp h with h | h; exact absurd h e; exact h)]
theorem wipe_wipe {a : PSt} {vs : List Nat} : ∀ {ws : List Nat}, (∀ w ∈ ws, w ∈ vs) → wipeA (wipeA a ws) vs = wipeA a vs
  | [], _ => rfl
  | w :: ws, h => by
    show wipeA ((wipeA a ws).set w none) vs = _
    rw [wipe_set (h w (List.mem_cons_self ..)), wipe_wipe fun x hx => h x (List.mem_cons_of_mem _ hx)]
theorem keep_set {a1 : PSt} {v : Nat} {u : Option AV} : ∀ {a : PSt} {vs : List Nat}, v ∈ vs → keepNo a1 vs (a.set v u) = keepNo a1 vs a
  | a, w :: vs, h => by
    unfold keepNo
    by_cases e : v = w
    · subst e
      by_cases h2 : v ∈ vs
      · rw [keep_set h2]
      · have : ∀ (vs : List Nat), v ∉ vs → keepNo a1 vs (a.set v u) = (keepNo a1 vs a).set v u := by
          intro vs
          induction vs with
          | nil => intro _; rfl
          | cons x vs ih =>
            intro hn
            rw [List.mem_cons, not_or] at hn
            unfold keepNo
            rw [ih hn.2]
            exact List.set_comm _ _ hn.1
        rw [this vs h2, List.set_set]
    · rw [keep_set (by rcases List.mem_cons.mp h with h | h; exact absurd h e; exact h)]
theorem keep_wipe {a1 a : PSt} {vs : List Nat} : ∀ {ws : List Nat}, (∀ w ∈ ws, w ∈ vs) → keepNo a1 vs (wipeA a ws) = keepNo a1 vs a
  | [], _ => rfl
  | w :: ws, h => by
    show keepNo a1 vs ((wipeA a ws).set w none) = _
    rw [keep_set (h w (List.mem_cons_self ..)), keep_wipe fun x hx => h x (List.mem_cons_of_mem _ hx)]
/-- a comprehension without a test that leaves the state alone -/
theorem lc_map {items : List D} {vs : List Nat} {wg : WG} {we : WE} {a1 : PSt} {q : Res → PSt → Prop} (f : D → D) (hl : items.length ≤ 16000000)
    (hs : ∀ (i : Nat) (d : D), items[i]? = some d → ∀ P : D → PSt → Prop, (∀ a6, wipeA a6 vs = wipeA a1 vs → P (f d) a6) → wg d (wipeA a1 vs) fun a3 => we a3 (fun r a5 => fz r a5 P) (fun _ _ => False))
    (he : q (.new (.lst (items.map f))) (keepNo a1 vs a1)) : lcS items vs wg wtYes we a1 q := by
  refine lc_i (fun i acc a => (a = a1 ∨ a = wipeA a1 vs) ∧ acc = (items.take i).map f) ⟨.inl rfl, rfl⟩ ?_ ?_
  · rintro i acc a d hi ⟨ha, rfl⟩
    have e : wipeA a vs = wipeA a1 vs := by
      rcases ha with rfl | rfl
      · rfl
      · exact wipe_wipe fun w hw => hw
    have hlt := (List.getElem?_eq_some_iff.mp hi).1
    rw [e]
    refine hs i d hi _ fun a6 h6 => ⟨smaller (by rw [List.length_map, List.length_take]; omega), .inr h6, ?_⟩
    rw [List.take_add_one, hi, Option.toList_some, List.map_append]
    rfl
  · rintro acc a ⟨ha, rfl⟩
    rw [List.take_length]
    have e : keepNo a1 vs a = keepNo a1 vs a1 := by
      rcases ha with rfl | rfl
      · rfl
      · exact keep_wipe fun w hw => hw
    rw [e]
    exact he
/-- .. over a list that is lent -/
theorem lcl_map {k : Nat} {items : List D} {vs : List Nat} {wg : WG} {we : WE} {a1 : PSt} {q : Res → PSt → Prop} (f : D → D) (hl : items.length ≤ 16000000) (hk : a1[k]? = some (some ⟨.lent, .lst items⟩)) (hv : k ∉ vs)
    (hs : ∀ (i : Nat) (d : D), items[i]? = some d → ∀ P : D → PSt → Prop, (∀ a6, wipeA a6 vs = wipeA a1 vs → P (f d) a6) → wg d (wipeA a1 vs) fun a3 => we a3 (fun r a5 => fz r a5 P) (fun _ _ => False))
    (he : q (.new (.lst (items.map f))) (keepNo a1 vs a1)) : lcL k items vs wg wtYes we a1 q := by
  refine lc_l (fun i acc a => (a = a1 ∨ a = wipeA a1 vs) ∧ acc = (items.take i).map f) ⟨.inl rfl, rfl⟩ ?_ ?_ ?_
  · rintro i acc a ⟨rfl | rfl, _⟩
    · exact hk
    · have : ∀ (ws : List Nat), k ∉ ws → (wipeA a1 ws)[k]? = a1[k]? := by
        intro ws
        induction ws with
        | nil => intro _; rfl
        | cons x ws ih =>
          intro hn
          rw [List.mem_cons, not_or] at hn
          unfold wipeA
          rw [List.getElem?_set_ne (fun z => hn.1 z.symm), ih hn.2]
      rw [this vs hv]
      exact hk
  · rintro i acc a d hi ⟨ha, rfl⟩
    have e : wipeA a vs = wipeA a1 vs := by
      rcases ha with rfl | rfl
      · rfl
      · exact wipe_wipe fun w hw => hw
    have hlt := (List.getElem?_eq_some_iff.mp hi).1
    rw [e]
    refine hs i d hi _ fun a6 h6 => ⟨smaller (by rw [List.length_map, List.length_take]; omega), .inr h6, ?_⟩
    rw [List.take_add_one, hi, Option.toList_some, List.map_append]
    rfl
  · rintro acc a ⟨ha, rfl⟩
    rw [List.take_length]
    have e : keepNo a1 vs a = keepNo a1 vs a1 := by
      rcases ha with rfl | rfl
      · rfl
      · exact keep_wipe fun w hw => hw
    rw [e]
    exact he
end DS

namespace DS
open PySem PySem.Spec PyProof.Rows L2
/-! ### a walk of a dict: it is locked for good -/
def iKeysL (td : TE) : TI := fun σ H R => td σ H fun x H1 => ∃ d, x = .ref d ∧ ((∃ kvs, H1 d = some (.dK kvs) ∧ ∀ o, R (Itk d o kvs) (upd H1 d (.frz o (.dK kvs)))) ∨ (∃ kvs, H1 d = some (.dT kvs) ∧ ∀ o, R (Itkt d o kvs) (upd H1 d (.frz o (.dT kvs)))) ∨
  (∃ o kvs, H1 d = some (.frz o (.dK kvs)) ∧ R (Itk d o kvs) H1) ∨ ∃ o kvs, H1 d = some (.frz o (.dT kvs)) ∧ R (Itkt d o kvs) H1)
theorem pi_keysL {X : Cx} {tg e : Expr} {td : TE} (he : PE X e td) : PI X tg e (iKeysL td) := by
  refine ⟨fun pins s σ H R I h => ?_⟩
  have goK : ∀ {s1 : Shared} {H1 : Hp} {d : Addr} {o : Obj} {kvs : List (L2.Key × V)}, Inv X pins σ H1 s1 → H1 d = some (.frz o (.dK kvs)) → R (Itk d o kvs) H1 → wpAny (model X.prog X.w) X.A (pyIter (.ref d)) (PIE X pins σ tg R) X.xe s1 := by
    intro s1 H1 d o kvs I1 hd q
    obtain ⟨hs, hgd, hx, es, ep, vs, hdt, hsz, kv, hm⟩ := I1.frzK hd
    refine iter_keys hs hgd hx hdt (pi_one (tk := s1.toks) I1 _ (turn_keys _ hdt) ⟨_, Heap.get?_push_size _ rfl, rfl, ?_⟩ q)
    rw [hsz] <;> rfl
  have goT : ∀ {s1 : Shared} {H1 : Hp} {d : Addr} {o : Obj} {kvs : List (List L2.Key × V)}, Inv X pins σ H1 s1 → H1 d = some (.frz o (.dT kvs)) → R (Itkt d o kvs) H1 → wpAny (model X.prog X.w) X.A (pyIter (.ref d)) (PIE X pins σ tg R) X.xe s1 := by
    intro s1 H1 d o kvs I1 hd q
    obtain ⟨hs, hgd, hx, es, ep, hdt, hsz, ent⟩ := I1.frzT hd
    refine iter_keys hs hgd hx hdt (pi_one (tk := s1.toks) I1 _ (turn_keysT _ hdt) ⟨_, Heap.get?_push_size _ rfl, rfl, ?_⟩ q)
    rw [hsz] <;> rfl
  refine thn (he.run pins s σ H _ I h) fun u s1 ⟨x, H1, I1, rx, d, ex, q⟩ => ?_
  subst ex
  obtain rfl : u = Value.ref d := rx
  rcases q with ⟨kvs, hd, q⟩ | ⟨kvs, hd, q⟩ | ⟨o, kvs, hd, q⟩ | ⟨o, kvs, hd, q⟩
  · obtain ⟨o, I2⟩ := I1.lock hd trivial
    exact goK I2 upd_same (q o)
  · obtain ⟨o, I2⟩ := I1.lock hd trivial
    exact goT I2 upd_same (q o)
  · exact goK I1 hd q
  · exact goT I1 hd q
def kD : L2.Key → D
  | .inl i => .int i
  | .inr x => .str x
def kTD (ks : List L2.Key) : D := .tup (ks.map kD)
theorem rep_kD {K : PySem.W.Frag} {F : Hp} (k : L2.Key) : Rep K F (kV k) (kD k) := by
  cases k with
  | inl i => exact .int i
  | inr x => exact .str x
theorem reps_kD {K : PySem.W.Frag} {F : Hp} : ∀ ks : List L2.Key, Reps K F (ks.map kV) (ks.map kD)
  | [] => .nil
  | k :: ks => .cons (rep_kD k) (reps_kD ks)
theorem RepA.get {K : PySem.W.Frag} {F : Hp} {κ : Type} : ∀ {vs : List (κ × V)} {ds : List (κ × D)} {i : Nat} {k : κ} {v : V}, RepA K F vs ds → vs[i]? = some (k, v) → ∃ d, ds[i]? = some (k, d)
  | _, _, _, _, _, .nil, e => by simp at e
  | _, _, 0, _, _, .cons r _, e => by simp at e; obtain ⟨rfl, rfl⟩ := e; exact ⟨_, rfl⟩
  | _, _, i + 1, k, v, .cons _ t, e => by
    obtain ⟨d, h1⟩ := RepA.get (i := i) (k := k) (v := v) t (by simpa using e)
    exact ⟨d, by simpa using h1⟩
theorem itk_ok {K : PySem.W.Frag} {F1 : Hp} {p : Addr} {o : Obj} {vs : List (L2.Key × V)} {ds : List (L2.Key × D)} (hs : F1 p = some (.frz o (.dK vs))) (r : RepA K F1 vs ds) : ItR K F1 (Itk p o vs) (ds.map fun e => kD e.1) where
  go := fun i E σ a F H e R hi => ⟨R.ext _ _ (e _ _ hs), by rw [r.length]; simpa using hi⟩
  stop := fun E σ a F H e R => ⟨R.ext _ _ (e _ _ hs), by rw [r.length]; simp⟩
  yld := fun i E σ a F H x H' e R hi y => by
    obtain ⟨rfl, k, v, h1, rfl⟩ := y
    obtain ⟨d, h2⟩ := r.get h1
    exact ⟨F, kD k, Same.refl F, R, by rw [List.getElem?_map, h2]; rfl, rep_kD k⟩
/-- a tuple that stands is taken into the frozen part -/
theorem Rel.takeTup {K : PySem.W.Frag} {E : En} {F H : Hp} {σ : L2.St} {a : PSt} (R : Rel K E F H σ a) {q : Addr} {xs : List V} (hq : H q = some (.tup xs)) : ∃ F', Same F F' ∧ Rel K E F' H σ a ∧ F' q = some (.tup xs) := by
  cases hF : F q with
  | some u =>
    have := R.ext q u hF
    rw [hq] at this
    cases this
    exact ⟨F, Same.refl F, R, hF⟩
  | none =>
    have s : Same F (upd F q (.tup xs)) := fun b u e => by rw [upd_ne (ne_of_none e hF)]; exact e
    refine ⟨upd F q (.tup xs), s, ⟨fun b u e => ?_, R.f0.trans s, fun b u e => ?_, R.keep, R.dom, R.lt, R.len, fun i av e => ?_, R.dis⟩, upd_same⟩
    · by_cases hb : b = q
      · subst hb; rw [upd_same] at e; cases e; exact hq
      · rw [upd_ne hb] at e; exact R.ext _ _ e
    · by_cases hb : b = q
      · subst hb; rw [upd_same] at e; cases e; exact .inr (.inr ⟨xs, rfl⟩)
      · rw [upd_ne hb] at e; exact R.new _ _ e
    · obtain ⟨v, e1, h⟩ := R.sl i av e
      refine ⟨v, e1, h.mono s fun p hp ho hpF => ?_⟩
      have hpq : p ≠ q := fun z => by
        subst z
        obtain ⟨o, t1, t2⟩ := (hp ▸ h : OwnAt K E F H i (.ref p) av).top ho
        rw [hq] at t1
        cases t1
        cases t2
      rw [upd_ne hpq]
      exact hpF
theorem itkt_ok {K : PySem.W.Frag} {F1 : Hp} {p : Addr} {o : Obj} {vs : List (List L2.Key × V)} {ds : List (List L2.Key × D)} (hs : F1 p = some (.frz o (.dT vs))) (r : RepA K F1 vs ds) : ItR K F1 (Itkt p o vs) (ds.map fun e => kTD e.1) where
  go := fun i E σ a F H e R hi => ⟨R.ext _ _ (e _ _ hs), by rw [r.length]; simpa using hi⟩
  stop := fun E σ a F H e R => ⟨R.ext _ _ (e _ _ hs), by rw [r.length]; simp⟩
  yld := fun i E σ a F H x H' e R hi y => by
    obtain ⟨rfl, k, v, q, h1, rfl, hq⟩ := y
    obtain ⟨d, h2⟩ := r.get h1
    obtain ⟨F2, s, R2, h3⟩ := R.takeTup hq
    exact ⟨F2, kTD k, s, R2, by rw [List.getElem?_map, h2]; rfl, .tup h3 (reps_kD k)⟩
/-- for k in d: the dict of a slot is locked from here on -/
def wiKeys (i : Nat) : WI := fun a q _ => match a[i]? with
  | some (some ⟨.own, .dT ds⟩) => q (ds.map fun e => kTD e.1) (a.set i (some ⟨.no, .lT ds⟩))
  | some (some ⟨.own, .dK ds⟩) => q (ds.map fun e => kD e.1) (a.set i (some ⟨.no, .lK ds⟩))
  | some (some ⟨.no, .lT ds⟩) => q (ds.map fun e => kTD e.1) a
  | some (some ⟨.no, .lK ds⟩) => q (ds.map fun e => kD e.1) a
  | _ => False
section
variable {X : Cx} {W : L2.St → XK} {tg l e a b c : Expr} {pos : Pos} {ta tb tc tl te : TE} {la : TA} {w w1 w2 w3 : WE} {ws : WA}
theorem si_keys {i : Nat} (h : PE X l (tVar i)) : SI X W tg l (iKeysL (tVar i)) (wiKeys i) := by
  refine ⟨pi_keysL h, fun E F H σ a R q qe Rl hw lk lx => ?_⟩
  unfold wiKeys at hw
  split at hw
  · rename_i ds hi
    obtain ⟨v, hσ, p, rfl, hF, hE, o, ho, t⟩ := Rl.sl i _ hi
    cases t with
    | @dT vs _ r =>
      refine ⟨.ref p, hσ, p, rfl, .inr (.inl ⟨vs, ho, fun od => ?_⟩)⟩
      have R1 := Rl.write (o := .frz od (.dT vs)) (c := .lT ds) hi (by simp) hσ (.lT r)
      obtain ⟨F2, s, R2, hr⟩ := R1.giveUp (i := i) (c := .lT ds) (by rw [List.getElem?_set_self (List.getElem?_eq_some_iff.mp hi).1])
      have rp := hr _ hσ
      rw [List.set_set] at R2
      cases rp with
      | lT hf r2 =>
        have := R2.ext _ _ hf
        rw [upd_same] at this
        cases this
        exact lk _ _ F2 _ _ s R2 (itkt_ok hf r2) hw
  · rename_i ds hi
    obtain ⟨v, hσ, p, rfl, hF, hE, o, ho, t⟩ := Rl.sl i _ hi
    cases t with
    | @dK vs _ r =>
      refine ⟨.ref p, hσ, p, rfl, .inl ⟨vs, ho, fun od => ?_⟩⟩
      have R1 := Rl.write (o := .frz od (.dK vs)) (c := .lK ds) hi (by simp) hσ (.lK r)
      obtain ⟨F2, s, R2, hr⟩ := R1.giveUp (i := i) (c := .lK ds) (by rw [List.getElem?_set_self (List.getElem?_eq_some_iff.mp hi).1])
      have rp := hr _ hσ
      rw [List.set_set] at R2
      cases rp with
      | lK hf r2 =>
        have := R2.ext _ _ hf
        rw [upd_same] at this
        cases this
        exact lk _ _ F2 _ _ s R2 (itk_ok hf r2) hw
  · rename_i ds hi
    obtain ⟨v, hσ, rp⟩ := Rl.sl i _ hi
    have rp : Rep X.K F v (.lT ds) := rp
    cases rp with
    | lT hf r => exact ⟨_, hσ, _, rfl, .inr (.inr (.inr ⟨_, _, Rl.ext _ _ hf, lk _ _ F H a (Same.refl F) Rl (itkt_ok hf r) hw⟩))⟩
  · rename_i ds hi
    obtain ⟨v, hσ, rp⟩ := Rl.sl i _ hi
    have rp : Rep X.K F v (.lK ds) := rp
    cases rp with
    | lK hf r => exact ⟨_, hσ, _, rfl, .inr (.inr (.inl ⟨_, _, Rl.ext _ _ hf, lk _ _ F H a (Same.refl F) Rl (itk_ok hf r) hw⟩))⟩
  · exact hw.elim
/-! ### tuples of ints, compared -/
def intsOf : List D → Option (List Int)
  | [] => some []
  | .int i :: ds => (intsOf ds).map (i :: ·)
  | _ => none
theorem ints_of {K : PySem.W.Frag} {F : Hp} : ∀ {ds : List D} {ns : List Int} {vs : List V}, intsOf ds = some ns → Reps K F vs ds → vs = ns.map V.int
  | [], ns, vs, h, r => by cases h; cases r; rfl
  | .int i :: ds, ns, vs, h, r => by
    obtain ⟨ms, h1, rfl⟩ := Option.map_eq_some_iff.mp h
    cases r with
    | cons r t => cases r; rw [List.map_cons, ints_of h1 t]
theorem intsOf_map (ns : List Int) : intsOf (ns.map D.int) = some ns := by
  induction ns with
  | nil => rfl
  | cons n ns ih => rw [List.map_cons, intsOf, ih]; rfl
def rLtA (K : PySem.W.Frag) : R2 := fun x y H Q => rI0 (fun i j => .bl (decide (i < j))) x y H Q ∨ rLtT K x y H Q
theorem op_ltA (hu : X.A.units < cLine) : OpR X (compareOp .Lt) (rLtA X.K) := op_lt.or (op_ltT hu)
def dLtA : DOp := fun x y k => match x, y with
  | .int i, .int j => k (.dat (.bl (decide (i < j))))
  | .tup xs, .tup ys => onO (intsOf xs) fun ns => onO (intsOf ys) fun ms => k (.dat (.bl (HT.lexLt ns ms)))
  | _, _ => False
theorem dLtA_ok {K : PySem.W.Frag} : OpS K (rLtA K) dLtA := by
  intro E F H σ a v1 v2 x y Q k R h1 h2 ho l
  unfold dLtA at ho
  split at ho
  · exact .inl ⟨_, _, h1.int, h2.int, l _ (.dat _) F H (Same.refl F) R (Rep.bl _) ho⟩
  · obtain ⟨ns, e1, ho⟩ := onO_iff.mp ho
    obtain ⟨ms, e2, ho⟩ := onO_iff.mp ho
    obtain ⟨p, vs, rfl, hp, r1⟩ := h1.tup R.ext
    obtain ⟨q, ws, rfl, hq, r2⟩ := h2.tup R.ext
    obtain rfl := ints_of e1 r1
    obtain rfl := ints_of e2 r2
    exact .inr ⟨p, q, ns, ms, rfl, rfl, .of hp, .of hq, l _ (.dat _) F H (Same.refl F) R (Rep.bl _) ho⟩
  · exact ho.elim
/-! ### methods that read -/
def tyN (T : String) : D → Bool
  | .str _ => T == "str"
  | .lst _ => T == "list"
  | .rol _ => T == "list"
  | .dK _ => T == "dict"
  | .dT _ => T == "dict"
  | _ => false
def MtS (K : PySem.W.Frag) (r : V → List V → Hp → VK → Prop) (op : D → DCall) : Prop :=
  ∀ E F H σ a v vs x ds Q k, Rel K E F H σ a → RdD K F H v x → Paired (RdD K F H) vs ds → op x ds k → (∀ v r F' H', Same F F' → Rel K E F' H' σ a → RepR K E F' H' σ a v r → k r → Q v H') → r v vs H Q
theorem RdD.tyN {K : PySem.W.Frag} {E : En} {F H : Hp} {σ : L2.St} {a : PSt} {v : V} {x : D} {T : String} (R : Rel K E F H σ a) (h : RdD K F H v x) (ht : DS.tyN T x = true) : tyV K T v H := by
  cases x with
  | str z => obtain rfl := h.str; exact eq_of_beq ht
  | lst xs => obtain ⟨p, vs, rfl, hp, _⟩ := h.lst R.ext; exact .inl ⟨eq_of_beq ht, vs, .of hp⟩
  | rol xs => obtain ⟨p, vs, rfl, hp, _⟩ := h.rol R.ext; exact .inl ⟨eq_of_beq ht, vs, hp⟩
  | dK xs => obtain ⟨p, vs, rfl, hp, _⟩ := h.dK R.ext; exact .inr (.inr (.inl ⟨eq_of_beq ht, .inl ⟨vs, hp⟩⟩))
  | dT xs => obtain ⟨p, vs, rfl, hp, _⟩ := h.dT R.ext; exact .inr (.inr (.inl ⟨eq_of_beq ht, .inr ⟨vs, hp⟩⟩))
  | _ => cases ht
def wMt (T : String) (op : D → DCall) (w : WE) (ws : WA) : WE := fun a q qe => w a (fun r a1 => onO (con a1 r) fun x0 => tyN T x0 = true ∧ ws a1 (fun rs a2 => onO (con a2 (hold r)) fun x => onO (conts a2 rs) fun ds => op x ds fun r => q r a2) qe) qe
def wMt0 (T : String) (op : D → DCall) (w : WE) : WE := fun a q qe => w a (fun r a1 => onO (con a1 r) fun x => tyN T x = true ∧ op x [] fun r => q r a1) qe
theorem se_mt {o e : Expr} {es : List Expr} {to : TE} {t : TA} {name : Str} {apos cpos : Pos} {T id : String} {r : V → List V → Hp → VK → Prop} {op : D → DCall} (pa : PlainAttrs T) (slot : Slot T name id) (hty : typeOf (.builtin id) = pure (.type "method_descriptor")) (hm : MtR X id r) (hs : MtS X.K r op) (ho : SE X W o to w) (ha : SA X W (e :: es) t ws)
    (hbase : attributeBase o name X.env (eval o X.env) = eval o X.env := by rfl)
    (hfew : ((backTo cpos (starEach (e :: es) X.env)).all (fun x => !x.1) && (backToKw cpos (keywordEach [] X.env)).all (fun x => x.1.isSome)
      && decide ((e :: es).length + ([] : List Keyword).length + (if ([] : List Keyword).isEmpty then 0 else 1) < 30)) = true := by rfl)
    (hline : (apos.endLine == cpos.line) = true := by rfl) (hst : starEach (e :: es) X.env = (false, eval e X.env) :: starEach es X.env := by rfl) (hplain : (backTo cpos (starEach es X.env)).any (·.1) = false := by rfl) :
    SE X W (.Call (.Attribute o name apos) (e :: es) [] cpos) (tBM X.K T r to t) (wMt T op w ws) := by
  refine ⟨pe_bm pa slot hty hm ho.1 ha.1 hbase hfew hline hst hplain, fun E F H σ a Q q qe R hw l lx => ?_⟩
  refine ho.2 E F H σ a _ _ qe R hw (fun v1 r1 F1 H1 a1 e1 R1 rp hw1 => ?_) lx
  obtain ⟨x0, c0, ht, hw1⟩ := onO_iff.mp hw1
  refine ⟨(rd_of R1 rp c0).tyN R1 ht, ?_⟩
  obtain ⟨F1', e1', R1', rp'⟩ := hold_ok R1 rp
  refine ha.2 E F1' H1 σ a1 _ _ qe R1' hw1 (fun vs rs F2 H2 a2 e2 R2 rps hn hq => ?_) (lx.to (e1.trans e1'))
  obtain ⟨x, c1, hq⟩ := onO_iff.mp hq
  obtain ⟨ds, c2, hop⟩ := onO_iff.mp hq
  exact hs E F2 H2 σ a2 v1 vs x ds Q _ R2 (rd_of R2 (held_on e2 rp') c1) (conts_rd R2 rps c2) hop fun v r F' H' e' R' rp k => l v r F' H' a2 (((e1.trans e1').trans e2).trans e') R' rp k
theorem se_mt0 {o : Expr} {to : TE} {name : Str} {apos cpos : Pos} {T id : String} {r : V → List V → Hp → VK → Prop} {op : D → DCall} (pa : PlainAttrs T) (slot : Slot T name id) (hty : typeOf (.builtin id) = pure (.type "method_descriptor")) (hm : MtR X id r) (hs : MtS X.K r op) (ho : SE X W o to w)
    (hbase : attributeBase o name X.env (eval o X.env) = eval o X.env := by rfl) (hline : (apos.endLine == cpos.line) = true := by rfl) :
    SE X W (.Call (.Attribute o name apos) [] [] cpos) (tBM0 X.K T r to) (wMt0 T op w) := by
  refine ⟨pe_bm0 pa slot hty hm ho.1 hbase hline, fun E F H σ a Q q qe R hw l lx => ?_⟩
  refine ho.2 E F H σ a _ _ qe R hw (fun v1 r1 F1 H1 a1 e1 R1 rp hw1 => ?_) lx
  obtain ⟨x, c0, ht, hop⟩ := onO_iff.mp hw1
  exact ⟨(rd_of R1 rp c0).tyN R1 ht, hs E F1 H1 σ a1 v1 [] x [] Q _ R1 (rd_of R1 rp c0) .nil hop fun v r F' H' e' R' rp k => l v r F' H' a1 (e1.trans e') R' rp k⟩
end
section
variable {K : PySem.W.Frag} {X : Cx}
theorem one_arg {P : V → D → Prop} {vs : List V} {d : D} (h : Paired P vs [d]) : ∃ v, vs = [v] ∧ P v d := by
  cases h with
  | cons h t => cases t; exact ⟨_, rfl, h⟩
/-- xs.count(k), ints -/
def dCount : D → DCall := fun x ds k => match ds with
  | [.int j] => match x with
    | .lst xs => onO (intsOf xs) fun ns => k (.dat (.int (ns.count j : Nat)))
    | _ => False
  | _ => False
theorem dCount_ok : MtS K (rCntI K) dCount := by
  intro E F H σ a v vs x ds Q k R h ha ho l
  unfold dCount at ho
  split at ho
  · obtain ⟨u, rfl, hu⟩ := one_arg ha
    obtain rfl := hu.int
    split at ho
    · obtain ⟨ns, e1, ho⟩ := onO_iff.mp ho
      obtain ⟨p, ws, rfl, hp, r⟩ := h.lst R.ext
      obtain rfl := ints_of e1 r
      exact ⟨p, ns, _, rfl, rfl, .of hp, l _ (.dat _) F H (Same.refl F) R (Rep.int _) ho⟩
    · exact ho.elim
  · exact ho.elim
/-- xs.index(y), all flat -/
def dIndex : D → DCall := fun x ds k => match ds with
  | [y] => match x with
    | .lst xs => flatD y = true ∧ xs.all flatD = true ∧ ∃ (j : Nat) (z : D), xs[j]? = some z ∧ scEq z y = true ∧ (∀ (m : Nat) (z' : D), m < j → xs[m]? = some z' → scEq z' y = false) ∧ k (.dat (.int (j : Nat)))
    | .tup xs => False
    | _ => False
  | _ => False
theorem dIndex_ok : MtS K (rIndex K) dIndex := by
  intro E F H σ a v vs x ds Q k R h ha ho l
  unfold dIndex at ho
  split at ho
  · rename_i y
    obtain ⟨u, rfl, hu⟩ := one_arg ha
    split at ho
    · rename_i xs
      obtain ⟨f1, f2, j, z, h1, h2, h3, hk⟩ := ho
      obtain ⟨p, ws, rfl, hp, r⟩ := h.lst R.ext
      obtain ⟨w, hw, rw'⟩ := r.get' h1
      have fl : ∀ (m : Nat) (z' : D), xs[m]? = some z' → flatD z' = true := fun m z' e => List.all_eq_true.mp f2 z' (List.mem_of_getElem? e)
      refine ⟨p, ws, u, j, w, rfl, rfl, .of hp, flat_rep hu f1, (any_rep hu f1 r f2).1, hw, ?_, fun m z' hm hz' => ?_, l _ (.dat _) F H (Same.refl F) R (Rep.int _) hk⟩
      · rw [scEq_rep (.inl rw' : RdD K F H _ _) hu (fl _ _ h1) f1]; exact h2
      · obtain ⟨d, hd, rd⟩ := r.get hz'
        rw [scEq_rep (.inl rd : RdD K F H _ _) hu (fl _ _ hd) f1]; exact h3 m d hm hd
    · exact ho.elim
    · exact ho.elim
  · exact ho.elim
/-- texts of a list -/
def strsOf : List D → Option (List Str)
  | [] => some []
  | .str i :: ds => (strsOf ds).map (i :: ·)
  | _ => none
theorem strs_of {F : Hp} : ∀ {ds : List D} {ns : List Str} {vs : List V}, strsOf ds = some ns → Reps K F vs ds → vs = ns.map V.str
  | [], ns, vs, h, r => by cases h; cases r; rfl
  | .str i :: ds, ns, vs, h, r => by
    obtain ⟨ms, h1, rfl⟩ := Option.map_eq_some_iff.mp h
    cases r with
    | cons r t => cases r; rw [List.map_cons, strs_of h1 t]
theorem strsOf_map (ns : List Str) : strsOf (ns.map D.str) = some ns := by
  induction ns with
  | nil => rfl
  | cons n ns ih => rw [List.map_cons, strsOf, ih]; rfl
def rJoin (K : PySem.W.Frag) : V → List V → Hp → VK → Prop := fun x xs H Q => ∃ a p, ∃ ys : List Str, x = .str a ∧ xs = [.ref p] ∧ (SqL K H p (ys.map V.str) ∨ SqT K H p (ys.map V.str)) ∧
    (ys.map (·.length)).sum + ys.length * a.length ≤ 16777216 ∧ Q (.str (Txt.join a ys)) H
theorem mt_joinA : MtR X "str.join" (rJoin X.K) := mt_join
def dJoin : D → DCall := fun x ds k => match x, ds with
  | .str z, [.lst xs] => onO (strsOf xs) fun ys => (ys.map (·.length)).sum + ys.length * z.length ≤ 16777216 ∧ k (.dat (.str (Txt.join z ys)))
  | _, _ => False
theorem dJoin_ok : MtS K (rJoin K) dJoin := by
  intro E F H σ a v vs x ds Q k R h ha ho l
  unfold dJoin at ho
  split at ho
  · obtain ⟨u, rfl, hu⟩ := one_arg ha
    obtain ⟨ns, e1, h1, ho⟩ := onO_iff.mp ho
    obtain rfl := h.str
    obtain ⟨p, ws, rfl, hp, r⟩ := hu.lst R.ext
    obtain rfl := strs_of e1 r
    exact ⟨_, p, ns, rfl, rfl, .inl (.of hp), h1, l _ (.dat _) F H (Same.refl F) R (Rep.str _) ho⟩
  · exact ho.elim
def rSplit : V → List V → Hp → VK → Prop := fun x xs H Q => ∃ a b, x = .str a ∧ xs = [.str b] ∧ (b.length == 0) = false ∧ a.length + 2 ≤ sizeLine ∧ rNewStrs (Txt.split a b) H Q
theorem mt_splitB : MtR X "str.split" rSplit := mt_split
def dSplit : D → DCall := fun x ds k => match x, ds with
  | .str a, [.str b] => ((b.length == 0) = false ∧ a.length + 2 ≤ sizeLine) ∧ k (.new (.lst ((Txt.split a b).map D.str)))
  | _, _ => False
theorem dSplit_ok : MtS K rSplit dSplit := by
  intro E F H σ a v vs x ds Q k R h ha ho l
  unfold dSplit at ho
  split at ho
  · obtain ⟨u, rfl, hu⟩ := one_arg ha
    obtain rfl := h.str
    obtain rfl := hu.str
    exact ⟨_, _, rfl, rfl, ho.1.1, ho.1.2, new_lst R (reps_strs _) l ho.2⟩
  · exact ho.elim
def rWords : V → List V → Hp → VK → Prop := fun x xs H Q => ∃ a, x = .str a ∧ xs = [] ∧ a.length + 2 ≤ sizeLine ∧ rNewStrs (Txt.words a) H Q
theorem mt_wordsB : MtR X "str.split" rWords := mt_words
def dWords : D → DCall := fun x ds k => match x, ds with
  | .str a, [] => a.length + 2 ≤ sizeLine ∧ k (.new (.lst ((Txt.words a).map D.str)))
  | _, _ => False
theorem dWords_ok : MtS K rWords dWords := by
  intro E F H σ a v vs x ds Q k R h ha ho l
  unfold dWords at ho
  split at ho
  · cases ha
    obtain rfl := h.str
    exact ⟨_, rfl, rfl, ho.1, new_lst R (reps_strs _) l ho.2⟩
  · exact ho.elim
/-- a text's method with a text, to an int -/
def rSSI (f : Str → Str → Int) : V → List V → Hp → VK → Prop := fun x xs H Q => ∃ a b, x = .str a ∧ xs = [.str b] ∧ Q (.int (f a b)) H
def dSSI (f : Str → Str → Int) : D → DCall := fun x ds k => match x, ds with
  | .str a, [.str b] => k (.dat (.int (f a b)))
  | _, _ => False
theorem dSSI_ok {f : Str → Str → Int} : MtS K (rSSI f) (dSSI f) := by
  intro E F H σ a v vs x ds Q k R h ha ho l
  unfold dSSI at ho
  split at ho
  · obtain ⟨u, rfl, hu⟩ := one_arg ha
    obtain rfl := h.str
    obtain rfl := hu.str
    exact ⟨_, _, rfl, rfl, l _ (.dat _) F H (Same.refl F) R (Rep.int _) ho⟩
  · exact ho.elim
theorem mt_countS : MtR X "str.count" (rSSI fun a b => (Txt.count a b : Int)) := mt_count
theorem mt_rfindS : MtR X "str.rfind" (rSSI fun a b => Txt.rfind a b) := mt_rfind
/-! ### the greatest, the least of a list of ints; sorted -/
def dMaxL : DCall := fun ds k => match ds with
  | [.lst xs] => onO (intsOf xs) fun ns => 0 < ns.length ∧ ∀ m, m ∈ ns → (∀ y, y ∈ ns → y ≤ m) → k (.dat (.int m))
  | _ => False
theorem dMaxL_ok : CallS K (rMax K) dMaxL := by
  intro E F H σ a vs ds Q k R h ho l
  unfold dMaxL at ho
  split at ho
  · obtain ⟨u, rfl, hu⟩ := one_arg h
    obtain ⟨ns, e1, h1, ho⟩ := onO_iff.mp ho
    obtain ⟨p, ws, rfl, hp, r⟩ := hu.lst R.ext
    obtain rfl := ints_of e1 r
    exact ⟨p, ns, rfl, .of hp, h1, fun m m1 m2 => l _ (.dat _) F H (Same.refl F) R (Rep.int _) (ho m m1 m2)⟩
  · exact ho.elim
def dMinL : DCall := fun ds k => match ds with
  | [.lst xs] => onO (intsOf xs) fun ns => 0 < ns.length ∧ ∀ m, m ∈ ns → (∀ y, y ∈ ns → m ≤ y) → k (.dat (.int m))
  | _ => False
theorem dMinL_ok : CallS K (rMin K) dMinL := by
  intro E F H σ a vs ds Q k R h ho l
  unfold dMinL at ho
  split at ho
  · obtain ⟨u, rfl, hu⟩ := one_arg h
    obtain ⟨ns, e1, h1, ho⟩ := onO_iff.mp ho
    obtain ⟨p, ws, rfl, hp, r⟩ := hu.lst R.ext
    obtain rfl := ints_of e1 r
    exact ⟨p, ns, rfl, .of hp, h1, fun m m1 m2 => l _ (.dat _) F H (Same.refl F) R (Rep.int _) (ho m m1 m2)⟩
  · exact ho.elim
end
/-! ### reversed, of a list, of a range -/
section
variable {X : Cx} {W : L2.St → XK} {tg l e a b c : Expr} {pos : Pos} {ta tb tc tl te : TE} {la : TA} {w w1 w2 w3 : WE} {ws : WA}
def wiRevL (ws : WA) : WI := fun a q qe => ws a (fun rs a1 => match rs with
  | [r] => fz r a1 fun d a2 => onO (listOf d) fun xs => q xs.reverse a2
  | _ => False) qe
theorem si_revL {p : Pos} (hg : Gl X "reversed") (hm : X.mg "reversed" = none) (ha : SA X W [e] la ws) (hs : starEach [e] X.env = (false, eval e X.env) :: starEach [] X.env := by rfl) :
    SI X W tg (.Call (.Name "reversed" p) [e] [] pos) (iRev X.K la) (wiRevL ws) := by
  refine ⟨pi_reversed hg hm ha.1 hs, fun E F H σ a R q qe Rl hw lk lx => ha.2 E F H σ a _ _ _ Rl hw (fun vs rs F' H' a' e R' rps hn hq => ?_) lx⟩
  match rs, hq with
  | [r], hq =>
    cases rps with
    | cons rp t =>
      cases t
      obtain ⟨F2, a2, d, s, R2, rp2, hk⟩ := fz_ok R' rp hq
      obtain ⟨xs, hd, hk⟩ := onO_iff.mp hk
      have hd : d = .lst xs ∨ d = .rol xs := by
        cases d <;> first
          | (cases hd; exact .inl rfl)
          | (cases hd; exact .inr rfl)
          | cases hd
      rcases hd with rfl | rfl
      · cases rp2 with
        | lst hf r => exact ⟨_, _, rfl, R2.ext.seq (.of hf), lk _ xs.reverse F2 H' a2 (e.trans s) R2 (itv_ok (.of hf) r) hk⟩
      · cases rp2 with
        | rol hf r => exact ⟨_, _, rfl, R2.ext.seq hf, lk _ xs.reverse F2 H' a2 (e.trans s) R2 (itv_ok hf r) hk⟩
def wiRevR1 (w : WE) : WI := fun a q qe => w a (fun r a1 => onI (con a1 r) fun j => (-(2 ^ 62) ≤ j ∧ j < 2 ^ 62) ∧ q (rangeC ((j.toNat : Int) - 1) (-1) j.toNat) a1) qe
theorem si_revR1 {p p2 pos2 : Pos} (hg : Gl X "reversed") (hm : X.mg "reversed" = none) (hg2 : Gl X "range") (hm2 : X.mg "range" = none) (ha : SE X W e ta w) (na : starEach [e] X.env = (false, eval e X.env) :: starEach [] X.env := by rfl)
    (hs : starEach [.Call (.Name "range" p2) [e] [] pos2] X.env = (false, eval (.Call (.Name "range" p2) [e] [] pos2) X.env) :: starEach [] X.env := by rfl) :
    SI X W tg (.Call (.Name "reversed" p) [.Call (.Name "range" p2) [e] [] pos2] [] pos) (iRevR (tRg1 ta)) (wiRevR1 w) := by
  refine ⟨pi_revR hg hm (prg_1 hg2 hm2 ha.1 na) hs, fun E F H σ a R q qe Rl hw lk lx => ha.2 E F H σ a _ _ _ Rl hw (fun v r F' H' a' e R' rp hq => ?_) lx⟩
  obtain ⟨j, c, ⟨h1, h2⟩, hk⟩ := onI_iff.mp hq
  obtain rfl := (rd_of R' rp c).int
  refine ⟨j, rfl, by decide, by decide, h1, h2, ?_⟩
  have e1 : (0 : Int) + (((j - 0).toNat : Nat) : Int) - 1 = (j.toNat : Int) - 1 := by rw [Int.sub_zero]; omega
  rw [e1, Int.sub_zero]
  exact lk _ _ F' H' a' e R' itc_ok hk
/-- a op b op c, of ints or what else the two can do -/
def wChain (op op' : DOp) (w1 w2 w3 : WE) : WE := fun a q qe => w1 a (fun r1 a1 => w2 a1 (fun r2 a2 => onO (con a2 (hold r1)) fun x => onO (con a2 r2) fun y => op x y fun r => onB (con a2 r) fun k =>
  br k (w3 a2 (fun r3 a3 => onO (con a3 (hold r2)) fun y => onO (con a3 r3) fun z => op' y z fun r => q r a3) qe) (q (.dat (.bl false)) a2)) qe) qe
theorem se_chain {o o' : CmpOp} {r r' : R2} {op op' : DOp} (ho : OpR X (compareOp o) r) (hs : OpS X.K r op) (ho' : OpR X (compareOp o') r') (hs' : OpS X.K r' op') (h1 : SE X W a ta w1) (h2 : SE X W b tb w2) (h3 : SE X W c tc w3)
    (hm : lastMarks [o, o'] [b, c] = false := by with_unfolding_all rfl) : SE X W (.Compare a [o, o'] [b, c] pos) (tChain r r' ta tb tc) (wChain op op' w1 w2 w3) := by
  obtain ⟨pa, sa⟩ := id h1
  obtain ⟨pb, sb⟩ := id h2
  obtain ⟨pc, sc⟩ := id h3
  refine ⟨pe_chain ho ho' pa pb pc hm, fun E F H σ a Q q qe R hw l lx => ?_⟩
  refine sa E F H σ a _ _ qe R hw (fun v1 r1 F1 H1 a1 s1 R1 rp1 hw1 => ?_) lx
  obtain ⟨F1', s1', R1', rp1'⟩ := hold_ok R1 rp1
  refine sb E F1' H1 σ a1 _ _ qe R1' hw1 (fun v2 r2 F2 H2 a2 s2 R2 rp2 hw2 => ?_) (lx.to (s1.trans s1'))
  obtain ⟨F2', s2', R2', rp2'⟩ := hold_ok R2 rp2
  obtain ⟨x, c1, hw2⟩ := onO_iff.mp hw2
  obtain ⟨y, c2, hop⟩ := onO_iff.mp hw2
  have c2' : con a2 (hold r2) = some y := by cases r2 <;> exact c2
  refine hs E F2' H2 σ a2 v1 v2 x y _ _ R2' (rd_of R2' (held_on (s2.trans s2') rp1') c1) (rd_of R2' rp2' c2') hop fun v r F3 H3 s3 R3 rp3 hb => ?_
  obtain ⟨k, cb, hb⟩ := onB_iff.mp hb
  have ev : v = .bl k := (rd_of R3 rp3 cb).bl
  refine ⟨k, ev, ?_⟩
  cases k with
  | false =>
    rw [if_neg Bool.false_ne_true]
    exact l (.bl false) (.dat (.bl false)) F3 H3 a2 ((((s1.trans s1').trans s2).trans s2').trans s3) R3 (.bl false) (br_ff hb rfl)
  | true =>
    rw [if_pos rfl]
    refine sc E F3 H3 σ a2 _ _ qe R3 (br_tt hb rfl) (fun v4 r4 F4 H4 a4 s4 R4 rp4 hw4 => ?_) (lx.to ((((s1.trans s1').trans s2).trans s2').trans s3))
    obtain ⟨y', c3, hw4⟩ := onO_iff.mp hw4
    obtain ⟨z, c4, hop'⟩ := onO_iff.mp hw4
    refine hs' E F4 H4 σ a4 v2 v4 y' z _ _ R4 (rd_of R4 (held_on (s3.trans s4) rp2') c3) (rd_of R4 rp4 c4) hop' fun v r F5 H5 s5 R5 rp5 k5 => ?_
    exact l v r F5 H5 a4 ((((((s1.trans s1').trans s2).trans s2').trans s3).trans s4).trans s5) R5 rp5 k5
end
end DS

namespace DS
open PySem PySem.Spec PyProof.Rows L2

/-! ### a memory of one's own: lists and dicts that are changed where they stand in others -/
abbrev Gm := List (Addr × D)
def gAt (g : Gm) (p : Addr) : Option D := valD g p
theorem gAt_cons {g : Gm} {p q : Addr} {d : D} : gAt ((p, d) :: g) q = if p = q then some d else gAt g q := valD_cons
theorem gAt_same {g : Gm} {p : Addr} {d : D} : gAt ((p, d) :: g) p = some d := by rw [gAt_cons, if_pos rfl]
theorem gAt_ne {g : Gm} {p q : Addr} {d : D} (h : p ≠ q) : gAt ((p, d) :: g) q = gAt g q := by rw [gAt_cons, if_neg h]
section
variable {K : PySem.W.Frag} {E : En} {F F' H H' : Hp} {σ σ' : L2.St} {a a' : PSt} {g : Gm}
theorem Top.ntup {o : HO} {d : D} (h : Top K F o d) : ∀ xs, o ≠ .tup xs := by
  intro xs z
  subst z
  cases h
def MemOk (K : PySem.W.Frag) (E : En) (F H : Hp) (σ : L2.St) (a : PSt) (g : Gm) : Prop := ∀ q d, gAt g q = some d → F q = none ∧ E.H q = none ∧ ¬ Owned σ a q ∧ ∃ o, H q = some o ∧ Top K F o d
theorem mem_nil : MemOk K E F H σ a [] := fun q d h => by cases h
def En.mem (E : En) (H : Hp) (g : Gm) : En := { E with H := fun p => if (gAt g p).isSome = true then H p else E.H p }
theorem mem_yes {p : Addr} {d : D} (h : gAt g p = some d) : (E.mem H g).H p = H p := if_pos (by rw [h]; rfl)
theorem mem_no {p : Addr} (h : gAt g p = none) : (E.mem H g).H p = E.H p := if_neg (by rw [h]; exact fun z => by cases z)
theorem Rel.toMem (R : Rel K E F H σ a) (M : MemOk K E F H σ a g) : Rel K (E.mem H g) F H σ a := by
  refine ⟨R.ext, R.f0, fun p u e => ?_, fun p u e l => ?_, fun p e => ?_, fun p l => ?_, R.len, fun i av e => ?_, R.dis⟩
  · rcases R.new p u e with z | z | z
    · exact .inl z
    · cases h : gAt g p with
      | none => exact .inr (.inl (by rw [mem_no h]; exact z))
      | some d => have := (M p d h).1; rw [e] at this; cases this
    · exact .inr (.inr z)
  · cases h : gAt g p with
    | none => rw [mem_no h] at e; exact R.keep p u e l
    | some d => rw [mem_yes h] at e; exact e
  · cases h : gAt g p with
    | none => rw [mem_no h]; exact R.dom p e
    | some d => rw [mem_yes h]; exact e
  · cases h : gAt g p with
    | none => rw [mem_no h]; exact R.lt p l
    | some d => exact absurd (M p d h).2.1 (R.lt p l)
  · obtain ⟨v, e1, q⟩ := R.sl i av e
    refine ⟨v, e1, ?_⟩
    obtain ⟨ow, c⟩ := av
    cases ow with
    | no => exact q
    | own =>
      obtain ⟨p, rfl, h1, h2, h3⟩ := q
      refine ⟨p, rfl, h1, ?_, h3⟩
      cases h : gAt g p with
      | none => rw [mem_no h]; exact h2
      | some d => exact absurd ⟨i, _, e, by simp, e1⟩ (M p d h).2.2.1
    | lent => exact q
theorem Rel.ofMem (R : Rel K E F H σ a) (M : MemOk K E F H σ a g) (s : Same F F') (R' : Rel K (E.mem H g) F' H' σ' a') : Rel K E F' H' σ' a' ∧ MemOk K E F' H' σ' a' g := by
  have dn : ∀ p, (E.mem H g).H p = none → E.H p = none := fun p h => by
    cases e : gAt g p with
    | none => rw [mem_no e] at h; exact h
    | some d => exact (M p d e).2.1
  refine ⟨⟨R'.ext, R'.f0, fun p u e => ?_, fun p u e l => ?_, fun p e => dn p (R'.dom p e), R.lt, R'.len, fun i av e => ?_, R'.dis⟩, fun q d h => ?_⟩
  · rcases R'.new p u e with z | z | z
    · exact .inl z
    · exact .inr (.inl (dn p z))
    · exact .inr (.inr z)
  · refine R'.keep p u ?_ l
    cases h : gAt g p with
    | none => rw [mem_no h]; exact e
    | some d => rw [(M p d h).2.1] at e; cases e
  · obtain ⟨v, e1, q⟩ := R'.sl i av e
    refine ⟨v, e1, ?_⟩
    obtain ⟨ow, c⟩ := av
    cases ow with
    | no => exact q
    | own =>
      obtain ⟨p, rfl, h1, h2, h3⟩ := q
      exact ⟨p, rfl, h1, dn p h2, h3⟩
    | lent => exact q
  · obtain ⟨f1, f2, f3, o, ho, t⟩ := M q d h
    have hL : ¬ E.L q := fun z => R.lt q z f2
    have hM : (E.mem H g).H q = some o := by rw [mem_yes h]; exact ho
    have hH : H' q = some o := R'.keep q o hM hL
    refine ⟨?_, f2, fun ⟨i, av, h1, h2, h3⟩ => ?_, o, hH, t.mono s⟩
    · cases e : F' q with
      | none => rfl
      | some u =>
        rcases R'.new q u e with z | z | ⟨xs, rfl⟩
        · have z' : E.F q = some u := z
          rw [R.f0 q u z'] at f1
          cases f1
        · rw [hM] at z; cases z
        · have := R'.ext q _ e
          rw [hH] at this
          exact absurd (Option.some.inj this) (t.ntup xs)
    · obtain ⟨v, e1, oa⟩ := R'.sl i av h1
      rw [h3] at e1
      cases e1
      obtain ⟨ow, c⟩ := av
      cases ow with
      | no => exact h2 rfl
      | own =>
        obtain ⟨p, e2, _, h5, _⟩ := oa
        cases e2
        rw [hM] at h5
        cases h5
      | lent =>
        obtain ⟨p, e2, _, h5, _⟩ := oa
        cases e2
        exact hL h5
structure RelG (K : PySem.W.Frag) (E : En) (F H : Hp) (σ : L2.St) (a : PSt) (g : Gm) : Prop where
  r : Rel K E F H σ a
  m : MemOk K E F H σ a g
theorem RelG.of (R : RelG K E F H σ a g) (s : Same F F') (R' : Rel K (E.mem H g) F' H' σ' a') : RelG K E F' H' σ' a' g := ⟨(R.r.ofMem R.m s R').1, (R.r.ofMem R.m s R').2⟩
theorem RelG.to (R : RelG K E F H σ a g) : Rel K (E.mem H g) F H σ a := R.r.toMem R.m
/-- a new object is laid -/
theorem RelG.lay (R : RelG K E F H σ a g) {p : Addr} (o : HO) (h : H p = none) : RelG K E F (upd H p o) σ a g :=
  ⟨R.r.lay o h, fun q d e => by
    obtain ⟨f1, f2, f3, u, hu, t⟩ := R.m q d e
    exact ⟨f1, f2, f3, u, by rw [upd_ne (ne_of_none hu h)]; exact hu, t⟩⟩
/-- .. and is remembered -/
theorem RelG.layM (R : RelG K E F H σ a g) {p : Addr} {o : HO} {d : D} (h : H p = none) (t : Top K F o d) : RelG K E F (upd H p o) σ a ((p, d) :: g) :=
  ⟨R.r.lay o h, fun q c e => by
    rw [gAt_cons] at e
    by_cases z : p = q
    · rw [if_pos z] at e
      cases e
      subst z
      obtain ⟨f1, f2, f3⟩ := R.r.fresh h
      exact ⟨f1, f2, f3, o, upd_same, t⟩
    · rw [if_neg z] at e
      exact (R.lay o h).m q c e⟩
/-- a remembered object is written -/
theorem RelG.writeM (R : RelG K E F H σ a g) {p : Addr} {o : HO} {c d : D} (h : gAt g p = some c) (t : Top K F o d) : RelG K E F (upd H p o) σ a ((p, d) :: g) := by
  obtain ⟨f1, f2, f3, u, hu, _⟩ := R.m p c h
  refine ⟨⟨fun b x e => ?_, R.r.f0, R.r.new, fun b x e l => ?_, fun b e => ?_, R.r.lt, R.r.len, fun i av e => ?_, R.r.dis⟩, fun q x e => ?_⟩
  · rw [upd_ne (ne_of_none e f1)]; exact R.r.ext _ _ e
  · rw [upd_ne (ne_of_none e f2)]; exact R.r.keep _ _ e l
  · by_cases hb : b = p
    · rw [hb]; exact f2
    · rw [upd_ne hb] at e; exact R.r.dom b e
  · obtain ⟨v, e1, q⟩ := R.r.sl i av e
    refine ⟨v, e1, ?_⟩
    have hne : ∀ b, av.o ≠ .no → v = .ref b → b ≠ p := fun b ho hb z => f3 ⟨i, av, e, ho, by rw [e1, hb, z]⟩
    obtain ⟨ow, c'⟩ := av
    cases ow with
    | no => exact q
    | own => obtain ⟨b, rfl, h1, h2, y, h3, h4⟩ := q; exact ⟨b, rfl, h1, h2, y, by rw [upd_ne (hne b (by simp) rfl)]; exact h3, h4⟩
    | lent => obtain ⟨b, rfl, h1, h2, h5, y, h3, h4⟩ := q; exact ⟨b, rfl, h1, h2, h5, y, by rw [upd_ne (hne b (by simp) rfl)]; exact h3, h4⟩
  · rw [gAt_cons] at e
    by_cases z : p = q
    · rw [if_pos z] at e
      cases e
      subst z
      exact ⟨f1, f2, f3, o, upd_same, t⟩
    · rw [if_neg z] at e
      obtain ⟨k1, k2, k3, y, hy, ty⟩ := R.m q x e
      exact ⟨k1, k2, k3, y, by rw [upd_ne (Ne.symm z)]; exact hy, ty⟩
theorem owned_set {i : Nat} {v : V} {d : D} {q : Addr} (h : Owned (σ.set i (some v)) (a.set i (some ⟨.no, d⟩)) q) : Owned σ a q := by
  obtain ⟨j, av, h1, h2, h3⟩ := h
  by_cases hj : j = i
  · subst hj
    have hi : j < a.length := by
      have := (List.getElem?_eq_some_iff.mp h1).1
      rwa [List.length_set] at this
    rw [List.getElem?_set_self hi] at h1
    cases h1
    exact absurd rfl h2
  · rw [List.getElem?_set_ne (Ne.symm hj)] at h1 h3
    exact ⟨j, av, h1, h2, h3⟩
theorem RelG.setDat (R : RelG K E F H σ a g) {i : Nat} {v : V} {d : D} (r : Rep K F v d) : RelG K E F H (σ.set i (some v)) (a.set i (some ⟨.no, d⟩)) g :=
  ⟨R.r.setDat r, fun q c e => by
    obtain ⟨f1, f2, f3, u, hu, t⟩ := R.m q c e
    exact ⟨f1, f2, fun z => f3 (owned_set z), u, hu, t⟩⟩
/-- a remembered object joins the frozen part -/
theorem RelG.freezeM (R : RelG K E F H σ a g) {p : Addr} {d : D} (h : gAt g p = some d) (g' : Gm) (hg : ∀ q c, gAt g' q = some c → q ≠ p ∧ gAt g q = some c) : ∃ F2, Same F F2 ∧ RelG K E F2 H σ a g' ∧ Rep K F2 (.ref p) d := by
  obtain ⟨f1, f2, f3, o, ho, t⟩ := R.m p d h
  obtain ⟨s, R2⟩ := R.r.freeze ho f1 f2 f3
  refine ⟨_, s, ⟨R2, fun q c e => ?_⟩, t.rep s upd_same⟩
  obtain ⟨hne, e⟩ := hg q c e
  obtain ⟨k1, k2, k3, u, hu, tu⟩ := R.m q c e
  exact ⟨by rw [upd_ne hne]; exact k1, k2, k3, u, hu, tu.mono s⟩
end

/-! ### statements over it -/
structure EndsG where
  nx : Gm → PSt → Prop
  rt : AV → PSt → Prop
  bk : Gm → PSt → Prop
  ct : Gm → PSt → Prop
  ex : Exc → PSt → Prop
def EndsG.at (D : EndsG) (g : Gm) : EndsA where
  nx := D.nx g
  rt := D.rt
  bk := D.bk g
  ct := D.ct g
  ex := D.ex
abbrev WM := Gm → EndsG → PSt → Prop
structure LkG (K : PySem.W.Frag) (E : En) (F : Hp) (D : Ends) (DA : EndsG) (W : L2.St → XK) : Prop where
  nx : ∀ σ F' H a g, Same F F' → RelG K E F' H σ a g → DA.nx g a → D.nx σ H
  bk : ∀ σ F' H a g, Same F F' → RelG K E F' H σ a g → DA.bk g a → D.bk σ H
  ct : ∀ σ F' H a g, Same F F' → RelG K E F' H σ a g → DA.ct g a → D.ct σ H
  rt : ∀ σ F' H a v r, Same F F' → Rel K E F' H σ a → RetR K E F' H v r → DA.rt r a → D.rt v H
  ex : ∀ σ, Lx K E F σ DA.ex (W σ)
theorem LkG.to {K : PySem.W.Frag} {E : En} {F F' : Hp} {D : Ends} {DA : EndsG} {W : L2.St → XK} (l : LkG K E F D DA W) (e : Same F F') : LkG K E F' D DA W :=
  ⟨fun σ F2 H a g e2 => l.nx σ F2 H a g (e.trans e2), fun σ F2 H a g e2 => l.bk σ F2 H a g (e.trans e2), fun σ F2 H a g e2 => l.ct σ F2 H a g (e.trans e2), fun σ F2 H a v r e2 => l.rt σ F2 H a v r (e.trans e2), fun σ => (l.ex σ).to e⟩
def SM (X : Cx) (W : L2.St → XK) (st : Stmt) (t : TS) (w : WM) : Prop := PS X st t ∧ ∀ E F H σ a g D DA, RelG X.K E F H σ a g → w g DA a → LkG X.K E F D DA W → t D σ H
def SMs (X : Cx) (W : L2.St → XK) (st : List Stmt) (t : TS) (w : WM) : Prop := PSs X st t ∧ ∀ E F H σ a g D DA, RelG X.K E F H σ a g → w g DA a → LkG X.K E F D DA W → t D σ H
section
variable {K : PySem.W.Frag} {E : En} {F H : Hp} {σ : L2.St} {a : PSt} {g : Gm} {D : Ends} {DA : EndsG} {W : L2.St → XK}
theorem lx_mem {qe : Exc → PSt → Prop} {Wx : XK} {τ : L2.St} (R : RelG K E F H σ a g) (l : Lx K E F τ qe Wx) : Lx K (E.mem H g) F τ qe Wx :=
  fun x a' cls dx F' H' e R' xr q => l x a' cls dx F' H' e (R.of e R').r xr q
theorem lk_mem (R : RelG K E F H σ a g) (l : LkG K E F D DA W) : Lk K (E.mem H g) F D (DA.at g) W where
  nx := fun σ' F' H' a' e R' q => l.nx σ' F' H' a' g e (R.of e R') q
  bk := fun σ' F' H' a' e R' q => l.bk σ' F' H' a' g e (R.of e R') q
  ct := fun σ' F' H' a' e R' q => l.ct σ' F' H' a' g e (R.of e R') q
  rt := fun σ' F' H' a' v r e R' rr q => l.rt σ' F' H' a' v r e (R.of e R').r (by
    have dn : ∀ p, (E.mem H g).H p = none → E.H p = none := fun p h => by
      cases e : gAt g p with
      | none => rw [mem_no e] at h; exact h
      | some d => exact (R.m p d e).2.1
    obtain ⟨o, c⟩ := r
    cases o with
    | no => exact rr
    | own => obtain ⟨p, e1, h1, h2, h3⟩ := rr; exact ⟨p, e1, h1, dn p h2, h3⟩
    | lent => obtain ⟨p, e1, h1, h2, h3⟩ := rr; exact ⟨p, e1, h1, dn p h2, h3⟩) q
  ex := fun τ => lx_mem R (l.ex τ)
end
section
variable {X : Cx} {W : L2.St → XK} {st : Stmt} {rest : List Stmt} {t u : TS} {w1 w2 : WM} {e a b c : Expr} {pos : Pos} {ta tb : TE} {ua : TT} {w wk wx : WE} {wt : WT}
def wmOf (w : WS) : WM := fun g D a => w (D.at g) a
theorem sm_of {w : WS} (h : SS X W st t w) : SM X W st t (wmOf w) := ⟨h.1, fun E F H σ a g D DA R hw l => h.2 (E.mem H g) F H σ a _ _ R.to hw (lk_mem R l)⟩
def wmNext : WM := fun g D a => D.nx g a
def wmSeq (w1 w2 : WM) : WM := fun g D a => w1 g { D with nx := fun g' a' => w2 g' D a' } a
theorem sms_nil : SMs X W [] tNext wmNext := ⟨pss_nil, fun E F H σ a g D DA R h l => l.nx σ F H a g (Same.refl F) R h⟩
theorem sms_cons (h1 : SM X W st t w1) (h2 : SMs X W rest u w2) : SMs X W (st :: rest) (tSeq t u) (wmSeq w1 w2) := by
  refine ⟨pss_cons h1.1 h2.1, fun E F H σ a g D DA R h l => h1.2 E F H σ a g _ _ R h ⟨fun σ' F' H' a' g' e R' q => ?_, l.bk, l.ct, l.rt, l.ex⟩⟩
  exact h2.2 E F' H' σ' a' g' D DA R' q (l.to e)
theorem sms_one (h1 : SM X W st t w1) : SMs X W [st] t w1 := ⟨pss_one h1.1, h1.2⟩
def wmIf (wt : WT) (w1 w2 : WM) : WM := fun g D a => wt a (fun b a1 => br b (w1 g D a1) (w2 g D a1)) D.ex
theorem sm_if {s1 s2 : List Stmt} (h : ST X W c ua wt) (h1 : SMs X W s1 t w1) (h2 : SMs X W s2 u w2) : SM X W (.If c s1 s2 pos) (tIfS ua t u) (wmIf wt w1 w2) := by
  refine ⟨ps_if h.1 h1.1 h2.1, fun E F H σ a g D DA R hw l => h.2 (E.mem H g) F H σ a _ _ _ R.to hw (fun k F' H' a' e R' q => ?_) (lx_mem R (l.ex σ))⟩
  have R2 := R.of e R'
  cases k with
  | true => exact h1.2 E F' H' σ a' g D DA R2 (br_tt q rfl) (l.to e)
  | false => exact h2.2 E F' H' σ a' g D DA R2 (br_ff q rfl) (l.to e)
@[irreducible] def forM (items : List D) (wg : WG) (wb : WM) (D : EndsG) (g : Gm) (a : PSt) : Prop := ∃ Inv : Nat → Gm → PSt → Prop, Inv 0 g a ∧
  (∀ i g2 a2 d, items[i]? = some d → Inv i g2 a2 → wg d a2 fun a3 => wb g2 { D with nx := Inv (i + 1), ct := Inv (i + 1), bk := D.nx } a3) ∧ ∀ g2 a2, Inv items.length g2 a2 → D.nx g2 a2
theorem form_i {items : List D} {wg : WG} {wb : WM} {D : EndsG} {g : Gm} {a : PSt} (Inv : Nat → Gm → PSt → Prop) (h0 : Inv 0 g a)
    (hs : ∀ i g2 a2 d, items[i]? = some d → Inv i g2 a2 → wg d a2 fun a3 => wb g2 { D with nx := Inv (i + 1), ct := Inv (i + 1), bk := D.nx } a3) (he : ∀ g2 a2, Inv items.length g2 a2 → D.nx g2 a2) : forM items wg wb D g a := by unfold forM; exact ⟨Inv, h0, hs, he⟩
theorem form_d {items : List D} {wg : WG} {wb : WM} {D : EndsG} {g : Gm} {a : PSt} (h : forM items wg wb D g a) : ∃ Inv : Nat → Gm → PSt → Prop, Inv 0 g a ∧
  (∀ i g2 a2 d, items[i]? = some d → Inv i g2 a2 → wg d a2 fun a3 => wb g2 { D with nx := Inv (i + 1), ct := Inv (i + 1), bk := D.nx } a3) ∧ ∀ g2 a2, Inv items.length g2 a2 → D.nx g2 a2 := by unfold forM at h; exact h
/-- the state named by the one ahead of the loop -/
theorem form_v {items : List D} {wg : WG} {wb : WM} {D : EndsG} {g : Gm} {a : PSt} (J : Nat → PSt → Gm → PSt → Prop) (h0 : J 0 a g a)
    (hs : ∀ i g2 a2 d, items[i]? = some d → J i a g2 a2 → wg d a2 fun a3 => wb g2 { D with nx := J (i + 1) a, ct := J (i + 1) a, bk := D.nx } a3) (he : ∀ g2 a2, J items.length a g2 a2 → D.nx g2 a2) : forM items wg wb D g a := form_i (fun i => J i a) h0 hs he
theorem form_rv {n : Nat} {lo : Int} {wg : WG} {wb : WM} {D : EndsG} {g : Gm} {a : PSt} (J : Nat → PSt → Gm → PSt → Prop) (h0 : J 0 a g a)
    (hs : ∀ i g2 a2, i < n → J i a g2 a2 → wg (.int (lo + i)) a2 fun a3 => wb g2 { D with nx := J (i + 1) a, ct := J (i + 1) a, bk := D.nx } a3) (he : ∀ g2 a2, J n a g2 a2 → D.nx g2 a2) : forM (rangeD lo n) wg wb D g a := by
  refine form_v J h0 (fun i g2 a2 d h hi => ?_) (fun g2 a2 h => he g2 a2 (by rw [rangeD_len] at h; exact h))
  obtain ⟨h1, rfl⟩ := rangeD_get.mp h
  exact hs i g2 a2 h1 hi
def wmFor (wi : WI) (wg : WG) (wb : WM) : WM := fun g D a => wi a (fun items a1 => forM items wg wb D g a1) D.ex
theorem sm_for {tg iter : Expr} {ti : TI} {wi : WI} {gg : TG} {wg : WG} {sl : List Nat} {tb' : TS} {wb : WM} {body : List Stmt} (hp : PassesOwn (model X.prog X.w) X.A X.env X.xe) (hc : X.calm = true) (hi : SI X W tg iter ti wi) (hg : SG X tg gg wg sl) (hb : SMs X W body tb' wb) (hs : ∀ x, foldedSetIterable iter X.env x = pure x := by intro _; rfl) :
    SM X W (.For tg iter body [] pos) (tFor ti gg tb') (wmFor wi wg wb) := by
  refine ⟨ps_for hp hc hi.1 hg.1 hb.1 hs, fun E F H σ a g D DA Rl hw l => hi.2 (E.mem H g) F H σ a _ _ _ Rl.to hw (fun J items F1 H1 a1 e1 R1 it hq => ?_) (lx_mem Rl (l.ex σ))⟩
  have R1 := Rl.of e1 R1
  obtain ⟨Inv, h0, hst, hend⟩ := form_d hq
  refine ⟨fun i m σ' H' => m = items.length - i ∧ i ≤ items.length ∧ ∃ F2 a2 g2, Same F1 F2 ∧ RelG X.K E F2 H' σ' a2 g2 ∧ Inv i g2 a2, ⟨_, rfl, Nat.zero_le _, F1, a1, g, Same.refl F1, R1, h0⟩, ?_⟩
  rintro i m σ' H' ⟨rfl, hi', F2, a2, g2, s2, R2, hinv⟩
  by_cases hlt : i < items.length
  · refine .inr ⟨it.go i E σ' a2 F2 H' s2 R2.r hlt, fun σ3 H3 => ∃ F3 a3 g3, Same F1 F3 ∧ RelG X.K E F3 H3 σ3 a3 g3 ∧ Inv (i + 1) g3 a3, fun σ3 H3 ⟨F3, a3, g3, s3, R3, h3⟩ => ⟨items.length - (i + 1), by omega, rfl, hlt, F3, a3, g3, s3, R3, h3⟩, fun x H3 y => ?_⟩
    obtain ⟨F3, d, s3, R3, hd, rp⟩ := it.yld i (E.mem H' g2) σ' a2 F2 H' x H3 s2 R2.to hlt y
    refine hg.2 (E.mem H' g2) F3 H3 σ' a2 x d _ _ R3 rp (hst i g2 a2 d hd hinv) fun σ4 a4 _ R4 hq4 => hb.2 E F3 H3 σ4 a4 g2 _ _ (R2.of s3 R4) hq4 ⟨fun σ5 F5 H5 a5 g5 e5 R5 q5 => ?_, fun σ5 F5 H5 a5 g5 e5 R5 q5 => ?_, fun σ5 F5 H5 a5 g5 e5 R5 q5 => ?_, fun σ5 F5 H5 a5 v r e5 => ?_, fun σ5 => ?_⟩
    · exact ⟨F5, a5, g5, (s2.trans s3).trans e5, R5, q5⟩
    · exact l.nx σ5 F5 H5 a5 g5 (((e1.trans s2).trans s3).trans e5) R5 q5
    · exact ⟨F5, a5, g5, (s2.trans s3).trans e5, R5, q5⟩
    · exact l.rt σ5 F5 H5 a5 v r (((e1.trans s2).trans s3).trans e5)
    · exact (l.ex σ5).to ((e1.trans s2).trans s3)
  · have e : i = items.length := by omega
    subst e
    exact .inl ⟨it.stop E σ' a2 F2 H' s2 R2.r, l.nx σ' F2 H' a2 g2 (e1.trans s2) R2 (hend g2 a2 hinv)⟩
/-- x = {}, remembered -/
def wmNewT (i : Nat) : WM := fun g D a => ∀ p, gAt g p = none → D.nx ((p, .dT []) :: g) (a.set i (some ⟨.no, .adr p⟩))
def wmNewK (i : Nat) : WM := fun g D a => ∀ p, gAt g p = none → D.nx ((p, .dK []) :: g) (a.set i (some ⟨.no, .adr p⟩))
theorem gAt_free {K : PySem.W.Frag} {E : En} {F H : Hp} {σ : L2.St} {a : PSt} {g : Gm} (R : RelG K E F H σ a g) {p : Addr} (h : H p = none) : gAt g p = none := by
  cases e : gAt g p with
  | none => rfl
  | some d =>
    obtain ⟨_, _, _, o, ho, _⟩ := R.m p d e
    rw [h] at ho
    cases ho
theorem sm_newT {i : Nat} {x : Str} {pos' p2 : Pos} (hN : X.N.Nodup) (hi : X.N[i]? = some x) (hx : Loc X.env.scope x) (hs : swapsWith (.Dict [] [] p2) (some (.Name x pos')) pos.line X.env = pure false := by rfl) (hf : X.fn x = true ∨ X.env.scope.names.lookup x = some .local := by first | exact .inl rfl | exact .inr rfl | assumption) :
    SM X W (.Assign [.Name x pos'] (.Dict [] [] p2) pos) (tAsg tDNewT (gName i)) (wmNewT i) :=
  ⟨ps_set hN hi hx pe_dnewT hs hf, fun E F H σ a g D DA R hw l p hp => l.nx _ F _ _ _ (Same.refl F) ((R.layM hp (.dT .nil)).setDat (.adr p)) (hw p (gAt_free R hp))⟩
theorem sm_newK {i : Nat} {x : Str} {pos' p2 : Pos} (hN : X.N.Nodup) (hi : X.N[i]? = some x) (hx : Loc X.env.scope x) (hs : swapsWith (.Dict [] [] p2) (some (.Name x pos')) pos.line X.env = pure false := by rfl) (hf : X.fn x = true ∨ X.env.scope.names.lookup x = some .local := by first | exact .inl rfl | exact .inr rfl | assumption) :
    SM X W (.Assign [.Name x pos'] (.Dict [] [] p2) pos) (tAsg tDNewK (gName i)) (wmNewK i) :=
  ⟨ps_set hN hi hx pe_dnewK hs hf, fun E F H σ a g D DA R hw l p hp => l.nx _ F _ _ _ (Same.refl F) ((R.layM hp (.dK .nil)).setDat (.adr p)) (hw p (gAt_free R hp))⟩
end
end DS

namespace DS
open PySem PySem.Spec PyProof.Rows L2

/-! ### d.setdefault(k, x), d's keys ints and texts, or tuples of them -/
def rSetdA : V → List V → Hp → VK → Prop := fun x xs H Q =>
  (∃ (a : Addr) (kvs : List (L2.Key × V)) (k : L2.Key) (d : V), x = .ref a ∧ xs = [kV k, d] ∧ H a = some (.dK kvs) ∧ kvs.length < sizeLine ∧ (∀ v, valV kvs k = some v → Q v H) ∧ (valV kvs k = none → Q d (upd H a (.dK (putK kvs k d))))) ∨
  (∃ (a : Addr) (kvs : List (List L2.Key × V)) (k : List L2.Key) (b : Addr) (d : V), x = .ref a ∧ xs = [.ref b, d] ∧ H a = some (.dT kvs) ∧ H b = some (.tup (k.map kV)) ∧ kvs.length < sizeLine ∧ (∀ v, valV kvs k = some v → Q v H) ∧ (valV kvs k = none → Q d (upd H a (.dT (putK kvs k d)))))
section
variable {X : Cx}
theorem mt_setd (hu : X.A.units + 1 < cLine) : MtR X "dict.setdefault" rSetdA := by
  intro pins s σ H x xs v us Q I rx rxs h
  rcases h with ⟨a, kvs, k, d, rfl, rfl, ha, hl, q1, q2⟩ | ⟨a, kvs, k, b, d, rfl, rfl, ha, hb, hl, q1, q2⟩
  · cases rx
    obtain ⟨u1, u2, rfl, r1, r2⟩ := vals2 rxs
    exact d_setd I ha r1 r2 hl (fun v hv w' s4 I4 rw' => ⟨v, _, I4, rw', q1 v hv⟩) fun hn w' s4 I4 rw' => ⟨d, _, I4, rw', q2 hn⟩
  · cases rx
    obtain ⟨u1, u2, rfl, r1, r2⟩ := vals2 rxs
    cases r1
    obtain ⟨z, hd, xs', rel, dd⟩ := L2.dt_of I.hok ha
    have hz : xs'.length ≤ sizeLine := by rw [← Paired.length rel]; exact z
    refine call_setdefault_heap (knd := tupleKind (mixKind X.prog X.w)) (k := k) (tupleKind_room_in1 hu) (key_of I.hok hb) hd dd (fun p hp => ?_) (fun hn h' dd' hs => ?_) hz
    · have r := rel.val k
      rw [hp] at r
      obtain ⟨v0, ev, rv⟩ : ∃ v0, valV kvs k = some v0 ∧ RelV v0 p.2 := by
        cases ev : valV kvs k with
        | none =>
          rw [ev] at r
          exact (show False from r).elim
        | some v0 =>
          rw [ev] at r
          exact ⟨v0, rfl, r⟩
      exact ⟨v0, H, I.tok _, rv, q1 v0 ev⟩
    · have r := rel.val k
      rw [hn] at r
      have e : valV kvs k = none := by
        cases ev : valV kvs k with
        | none => rfl
        | some v0 =>
          rw [ev] at r
          exact (show False from r).elim
      obtain ⟨o, es, ep, hq, h2, h3, h4, _, h5⟩ := dd'
      have hz2 : (putK kvs k d).length ≤ sizeLine := by
        have := length_putK kvs k d
        omega
      have I2 := d_write (t' := s.toks + (tupleKind (mixKind X.prog X.w)).draws k) (ob := .dT (putK kvs k d)) I (by rw [ha]; exact True.intro) hs ⟨o, hq⟩
        ⟨hz2, hd, _, (rel.put k hb r2).keeps (fun c ys ec => (by rw [upd_ne (ne_of ec ha (fun z => nomatch z))]; exact ec)), o, es, ep, hq, h2, h3, h4, h5⟩
      exact ⟨d, _, I2, r2, q2 e⟩
end
/-! ### .. as a word -/
def onAdr (x : Option (Option AV)) (f : Addr → Prop) : Prop := match x with
  | some (some ⟨.no, .adr p⟩) => f p
  | _ => False
theorem onAdr_iff {x : Option (Option AV)} {f : Addr → Prop} : onAdr x f ↔ ∃ p, x = some (some ⟨.no, .adr p⟩) ∧ f p := by
  constructor
  · intro h
    unfold onAdr at h
    split at h
    · exact ⟨_, rfl, h⟩
    · exact h.elim
  · rintro ⟨p, rfl, h⟩
    exact h
def onLs (x : Option D) (f : List D → Prop) : Prop := match x with
  | some (.lst xs) => f xs
  | _ => False
theorem onLs_iff {x : Option D} {f : List D → Prop} : onLs x f ↔ ∃ xs, x = some (.lst xs) ∧ f xs := by
  constructor
  · intro h
    unfold onLs at h
    split at h
    · exact ⟨_, rfl, h⟩
    · exact h.elim
  · rintro ⟨p, rfl, h⟩
    exact h
theorem onLs_of {x : Option D} {f : List D → Prop} {xs : List D} (h : x = some (.lst xs)) (hf : f xs) : onLs x f := by rw [h]; exact hf
def isDict : D → Prop
  | .dT _ => True
  | .dK _ => True
  | _ => False
def sdS (c y : D) (k : Option D → (D → D) → Prop) : Prop := match c, y with
  | .dT kvs, .tup ys => onO (keysD ys) fun key => kvs.length < sizeLine ∧ k (valD kvs key) (fun d => .dT (putD kvs key d))
  | .dK kvs, y => onO (keyD y) fun key => kvs.length < sizeLine ∧ k (valD kvs key) (fun d => .dK (putD kvs key d))
  | _, _ => False
def sdK (root : Addr) (g : Gm) (k : Addr → Gm → Prop) (o : Option D) (put : D → D) : Prop := match o with
  | some (.adr q) => k q g
  | some _ => False
  | none => ∀ q, gAt g q = none → k q ((root, put (.adr q)) :: (q, .lst []) :: g)
/-- x.setdefault(k, []) -/
def wmSd (i : Nat) (wk : WE) (g : Gm) (a : PSt) (k : Addr → Gm → PSt → Prop) (ex : Exc → PSt → Prop) : Prop :=
  onAdr a[i]? fun root => onO (gAt g root) fun c => isDict c ∧ wk a (fun rk a1 => onO (con a1 rk) fun y => sdS c y (sdK root g fun q g2 => k q g2 a1)) ex
section
variable {X : Cx} {W : L2.St → XK} {e kx : Expr} {pos : Pos} {ta tk : TE} {w wk : WE}
theorem slot_adr {K : PySem.W.Frag} {E : En} {F H : Hp} {σ : L2.St} {a : PSt} (R : Rel K E F H σ a) {i : Nat} {p : Addr} (h : a[i]? = some (some ⟨.no, .adr p⟩)) : σ[i]? = some (some (.ref p)) := by
  obtain ⟨v, e, q⟩ := R.sl i _ h
  have q : Rep K F v (.adr p) := q
  cases q
  exact e
theorem top_lst {K : PySem.W.Frag} {F : Hp} {o : HO} {xs : List D} (t : Top K F o (.lst xs)) : ∃ vs, o = .lst vs ∧ Reps K F vs xs := by
  cases t with | lst r => exact ⟨_, rfl, r⟩
/-- the receiver, the key, the empty list and what setdefault gives -/
theorem sd_core {E : En} {F H : Hp} {σ : L2.St} {a : PSt} {g : Gm} {i : Nat} {k : Addr → Gm → PSt → Prop} {ex : Exc → PSt → Prop} {Q : VK} (hk : SE X W kx tk wk) (R : RelG X.K E F H σ a g) (h : wmSd i wk g a k ex) (lx : Lx X.K E F σ ex (W σ))
    (l : ∀ q g2 a1 F1 H1, Same F F1 → RelG X.K E F1 H1 σ a1 g2 → k q g2 a1 → Q (.ref q) H1) : tBM X.K "dict" rSetdA (tVar i) (tCons tk (tCons (tLst tNil) tNil)) σ H Q := by
  obtain ⟨root, ha, h⟩ := onAdr_iff.mp h
  obtain ⟨c, hc, hd, h⟩ := onO_iff.mp h
  obtain ⟨f1, f2, f3, o, ho, t⟩ := R.m root c hc
  refine ⟨.ref root, slot_adr R.r ha, .inr (.inr (.inl ⟨rfl, ?_⟩)), hk.2 (E.mem H g) F H σ a _ _ _ R.to h (fun v rk F1 H1 a1 e1 R1 rp hq => ?_) (lx_mem R lx)⟩
  · cases t with
    | dK r => exact .inl ⟨_, ho⟩
    | dT r => exact .inr ⟨_, ho⟩
    | _ => exact hd.elim
  · obtain ⟨y, hy, hs⟩ := onO_iff.mp hq
    have hy := rd_of R1 rp hy
    have R1 := R.of e1 R1
    refine ⟨by simp, fun p hp => ?_⟩
    obtain ⟨_, _, _, o1, ho1, t1⟩ := R1.m root c hc
    have hrp : root ≠ p := ne_of_none ho1 hp
    have ho2 : upd H1 p (.lst []) root = some o1 := by rw [upd_ne hrp]; exact ho1
    have R2 := R1.layM hp (Top.lst (K := X.K) (F := F1) (vs := []) (ds := []) .nil)
    have hgp : gAt g p = none := gAt_free R1 hp
    have hc2 : gAt ((p, .lst []) :: g) root = some c := by rw [gAt_ne (Ne.symm hrp)]; exact hc
    unfold sdS at hs
    split at hs
    · rename_i ds _ _
      obtain ⟨key, hkey, hz, hs⟩ := onO_iff.mp hs
      cases t1 with
      | @dT vs _ r =>
        obtain ⟨b, rfl, hb⟩ := tup_rd R1.r.ext hy hkey
        obtain ⟨r1, r2⟩ := r.val key
        refine .inr ⟨root, vs, key, b, .ref p, rfl, rfl, ho2, by rw [upd_ne (ne_of_none hb hp)]; exact hb, by rw [r.len]; exact hz, fun v hv => ?_, fun hv => ?_⟩
        · cases hd2 : valD ds key with
          | none => rw [r2 hd2] at hv; cases hv
          | some d =>
            obtain ⟨v', e3, rv⟩ := r1 d hd2
            rw [hv] at e3
            cases e3
            rw [hd2] at hs
            unfold sdK at hs
            split at hs
            · rename_i q e4
              cases e4
              cases rv
              exact l _ g a1 F1 _ e1 (R1.lay _ hp) hs
            · exact hs.elim
            · rename_i e4
              cases e4
        · cases hd2 : valD ds key with
          | some d =>
            obtain ⟨v', e3, rv⟩ := r1 d hd2
            rw [hv] at e3
            cases e3
          | none =>
            rw [hd2] at hs
            exact l p _ a1 F1 _ e1 (R2.writeM hc2 (.dT (r.put (.adr p)))) (hs p hgp)
    · rename_i ds
      obtain ⟨key, hkey, hz, hs⟩ := onO_iff.mp hs
      cases t1 with
      | @dK vs _ r =>
        obtain rfl := key_rd hy hkey
        obtain ⟨r1, r2⟩ := r.val key
        refine .inl ⟨root, vs, key, .ref p, rfl, rfl, ho2, by rw [r.len]; exact hz, fun v hv => ?_, fun hv => ?_⟩
        · cases hd2 : valD ds key with
          | none => rw [r2 hd2] at hv; cases hv
          | some d =>
            obtain ⟨v', e3, rv⟩ := r1 d hd2
            rw [hv] at e3
            cases e3
            rw [hd2] at hs
            unfold sdK at hs
            split at hs
            · rename_i q e4
              cases e4
              cases rv
              exact l _ g a1 F1 _ e1 (R1.lay _ hp) hs
            · exact hs.elim
            · rename_i e4
              cases e4
        · cases hd2 : valD ds key with
          | some d =>
            obtain ⟨v', e3, rv⟩ := r1 d hd2
            rw [hv] at e3
            cases e3
          | none =>
            rw [hd2] at hs
            exact l p _ a1 F1 _ e1 (R2.writeM hc2 (.dK (r.put (.adr p)))) (hs p hgp)
    · exact hs.elim
theorem pe_sd (hu : X.A.units + 1 < cLine) {i : Nat} {o : Expr} {lp : Pos} {apos cpos : Pos} (ho : PE X o (tVar i)) (hk : PE X kx tk) (hbase : attributeBase o "setdefault" X.env (eval o X.env) = eval o X.env := by rfl)
    (hfew : ((backTo cpos (starEach [kx, .List [] lp] X.env)).all (fun x => !x.1) && (backToKw cpos (keywordEach [] X.env)).all (fun x => x.1.isSome) && decide (([kx, Expr.List [] lp] : List Expr).length + ([] : List Keyword).length + (if ([] : List Keyword).isEmpty then 0 else 1) < 30)) = true := by rfl)
    (hline : (apos.endLine == cpos.line) = true := by rfl) (hst : starEach [kx, .List [] lp] X.env = (false, eval kx X.env) :: starEach [.List [] lp] X.env := by rfl) (hst2 : starEach [.List [] lp] X.env = (false, eval (.List [] lp) X.env) :: starEach [] X.env := by rfl) (hplain : (backTo cpos (starEach [.List [] lp] X.env)).any (·.1) = false := by rfl) :
    PE X (.Call (.Attribute o "setdefault" apos) [kx, .List [] lp] [] cpos) (tBM X.K "dict" rSetdA (tVar i) (tCons tk (tCons (tLst tNil) tNil))) :=
  pe_bm PySem.F.plainAttrs_dict PySem.F.slot_dict_setdefault PySem.F.type_dict_setdefault (mt_setd hu) ho (pa_cons hk (pa_cons (pe_lst pa_nil) pa_nil hst2) hst) hbase hfew hline hst hplain
/-- x.setdefault(k, []).append(e) -/
def wmSdApp (i : Nat) (wk w : WE) : WM := fun g D a => wmSd i wk g a (fun q g2 a1 => onLs (gAt g2 q) fun _ => w a1 (fun r a2 => fz r a2 fun d a3 => onLs (gAt g2 q) fun xs => xs.length < sizeLine ∧ D.nx ((q, .lst (xs ++ [d])) :: g2) a3) D.ex) D.ex
theorem app_core {E : En} {F H : Hp} {σ : L2.St} {a : PSt} {g : Gm} {q : Addr} {D : Ends} {DA : EndsG} (h : SE X W e ta w) (R : RelG X.K E F H σ a g) (hw : onLs (gAt g q) fun _ => w a (fun r a2 => fz r a2 fun d a3 => onLs (gAt g q) fun xs => xs.length < sizeLine ∧ DA.nx ((q, .lst (xs ++ [d])) :: g) a3) DA.ex) (l : LkG X.K E F D DA W) :
    tyV X.K "list" (.ref q) H ∧ tCons ta tNil σ H fun xs H2 => rAppend (.ref q) xs H2 fun _ H1 => D.nx σ H1 := by
  obtain ⟨xs, hx, hw⟩ := onLs_iff.mp hw
  obtain ⟨_, _, _, o, ho, t⟩ := R.m q _ hx
  obtain ⟨vs, rfl, _⟩ := top_lst t
  refine ⟨.inl ⟨rfl, vs, .of ho⟩, h.2 (E.mem H g) F H σ a _ _ _ R.to hw (fun u r F' H' a' e R' rp hq => ?_) (lx_mem R (l.ex σ))⟩
  obtain ⟨F2, a2, d, s, R2, rp2, q2⟩ := fz_ok R' rp hq
  have R2 := R.of (e.trans s) R2
  obtain ⟨ys, hy, hz, hk⟩ := onLs_iff.mp q2
  obtain ⟨_, _, _, o2, ho2, t2⟩ := R2.m q _ hy
  obtain ⟨us, rfl, r2⟩ := top_lst t2
  exact ⟨q, us, u, rfl, rfl, ho2, by rw [r2.length]; exact hz, l.nx _ F2 _ _ _ (e.trans s) (R2.writeM hy (.lst (r2.append (.cons rp2 .nil)))) hk⟩
theorem sm_sdapp (hu : X.A.units + 1 < cLine) {i : Nat} {o : Expr} {lp : Pos} {apos cpos apos2 cpos2 : Pos} (ho : PE X o (tVar i)) (hk : SE X W kx tk wk) (h : SE X W e ta w)
    (hbase : attributeBase o "setdefault" X.env (eval o X.env) = eval o X.env := by rfl)
    (hfew : ((backTo cpos (starEach [kx, .List [] lp] X.env)).all (fun x => !x.1) && (backToKw cpos (keywordEach [] X.env)).all (fun x => x.1.isSome) && decide (([kx, Expr.List [] lp] : List Expr).length + ([] : List Keyword).length + (if ([] : List Keyword).isEmpty then 0 else 1) < 30)) = true := by rfl)
    (hline : (apos.endLine == cpos.line) = true := by rfl) (hst : starEach [kx, .List [] lp] X.env = (false, eval kx X.env) :: starEach [.List [] lp] X.env := by rfl) (hst2 : starEach [.List [] lp] X.env = (false, eval (.List [] lp) X.env) :: starEach [] X.env := by rfl) (hplain : (backTo cpos (starEach [.List [] lp] X.env)).any (·.1) = false := by rfl)
    (hbase2 : attributeBase (.Call (.Attribute o "setdefault" apos) [kx, .List [] lp] [] cpos) "append" X.env (eval (.Call (.Attribute o "setdefault" apos) [kx, .List [] lp] [] cpos) X.env) = eval (.Call (.Attribute o "setdefault" apos) [kx, .List [] lp] [] cpos) X.env := by rfl)
    (hfew2 : ((backTo cpos2 (starEach [e] X.env)).all (fun x => !x.1) && (backToKw cpos2 (keywordEach [] X.env)).all (fun x => x.1.isSome) && decide (([e] : List Expr).length + ([] : List Keyword).length + (if ([] : List Keyword).isEmpty then 0 else 1) < 30)) = true := by rfl)
    (hline2 : (apos2.endLine == cpos2.line) = true := by rfl) (hst3 : starEach [e] X.env = (false, eval e X.env) :: starEach [] X.env := by rfl) (hplain2 : (backTo cpos2 (starEach [] X.env)).any (·.1) = false := by rfl)
    (hs : swapsWith (.Call (.Attribute (.Call (.Attribute o "setdefault" apos) [kx, .List [] lp] [] cpos) "append" apos2) [e] [] cpos2) none pos.line X.env = pure false := by rfl) :
    SM X W (.Expr (.Call (.Attribute (.Call (.Attribute o "setdefault" apos) [kx, .List [] lp] [] cpos) "append" apos2) [e] [] cpos2) pos) (tDrop (tBM X.K "list" rAppend (tBM X.K "dict" rSetdA (tVar i) (tCons tk (tCons (tLst tNil) tNil))) (tCons ta tNil))) (wmSdApp i wk w) := by
  refine ⟨ps_expr (pe_bm PySem.F.plainAttrs_list PySem.F.slot_list_append PySem.F.type_list_append mt_append (pe_sd hu ho hk.1 hbase hfew hline hst hst2 hplain) (pa_cons h.1 pa_nil hst3) hbase2 hfew2 hline2 hst3 hplain2) hs, fun E F H σ a g D DA R hw l => ?_⟩
  exact sd_core hk R hw (l.ex σ) fun q g2 a1 F1 H1 s R1 hq => app_core h R1 hq (l.to s)
/-- y = x.setdefault(k, []) -/
def wmSdSet (j i : Nat) (wk : WE) : WM := fun g D a => wmSd i wk g a (fun q g2 a1 => D.nx g2 (a1.set j (some ⟨.no, .adr q⟩))) D.ex
theorem sm_sdset (hu : X.A.units + 1 < cLine) {i j : Nat} {x : Str} {pos' : Pos} {o : Expr} {lp : Pos} {apos cpos : Pos} (hN : X.N.Nodup) (hi : X.N[j]? = some x) (hx : Loc X.env.scope x) (ho : PE X o (tVar i)) (hk : SE X W kx tk wk)
    (hbase : attributeBase o "setdefault" X.env (eval o X.env) = eval o X.env := by rfl)
    (hfew : ((backTo cpos (starEach [kx, .List [] lp] X.env)).all (fun x => !x.1) && (backToKw cpos (keywordEach [] X.env)).all (fun x => x.1.isSome) && decide (([kx, Expr.List [] lp] : List Expr).length + ([] : List Keyword).length + (if ([] : List Keyword).isEmpty then 0 else 1) < 30)) = true := by rfl)
    (hline : (apos.endLine == cpos.line) = true := by rfl) (hst : starEach [kx, .List [] lp] X.env = (false, eval kx X.env) :: starEach [.List [] lp] X.env := by rfl) (hst2 : starEach [.List [] lp] X.env = (false, eval (.List [] lp) X.env) :: starEach [] X.env := by rfl) (hplain : (backTo cpos (starEach [.List [] lp] X.env)).any (·.1) = false := by rfl)
    (hs : swapsWith (.Call (.Attribute o "setdefault" apos) [kx, .List [] lp] [] cpos) (some (.Name x pos')) pos.line X.env = pure false := by rfl) (hf : X.fn x = true ∨ X.env.scope.names.lookup x = some .local := by first | exact .inl rfl | exact .inr rfl | assumption) :
    SM X W (.Assign [.Name x pos'] (.Call (.Attribute o "setdefault" apos) [kx, .List [] lp] [] cpos) pos) (tAsg (tBM X.K "dict" rSetdA (tVar i) (tCons tk (tCons (tLst tNil) tNil))) (gName j)) (wmSdSet j i wk) := by
  refine ⟨ps_set hN hi hx (pe_sd hu ho hk.1 hbase hfew hline hst hst2 hplain) hs hf, fun E F H σ a g D DA R hw l => ?_⟩
  exact sd_core hk R hw (l.ex σ) fun q g2 a1 F1 H1 s R1 hq => l.nx _ F1 _ _ _ s (R1.setDat (.adr q)) hq
/-- y.append(e), y a list of the memory -/
def wmApp (i : Nat) (w : WE) : WM := fun g D a => onAdr a[i]? fun q => onLs (gAt g q) fun _ => w a (fun r a2 => fz r a2 fun d a3 => onLs (gAt g q) fun xs => xs.length < sizeLine ∧ D.nx ((q, .lst (xs ++ [d])) :: g) a3) D.ex
theorem sm_app {i : Nat} {o : Expr} {apos cpos : Pos} (ho : PE X o (tVar i)) (h : SE X W e ta w) (hbase : attributeBase o "append" X.env (eval o X.env) = eval o X.env := by rfl)
    (hfew : ((backTo cpos (starEach [e] X.env)).all (fun x => !x.1) && (backToKw cpos (keywordEach [] X.env)).all (fun x => x.1.isSome) && decide (([e] : List Expr).length + ([] : List Keyword).length + (if ([] : List Keyword).isEmpty then 0 else 1) < 30)) = true := by rfl)
    (hline : (apos.endLine == cpos.line) = true := by rfl) (hst : starEach [e] X.env = (false, eval e X.env) :: starEach [] X.env := by rfl) (hplain : (backTo cpos (starEach [] X.env)).any (·.1) = false := by rfl)
    (hs : swapsWith (.Call (.Attribute o "append" apos) [e] [] cpos) none pos.line X.env = pure false := by rfl) :
    SM X W (.Expr (.Call (.Attribute o "append" apos) [e] [] cpos) pos) (tDrop (tBM X.K "list" rAppend (tVar i) (tCons ta tNil))) (wmApp i w) := by
  refine ⟨ps_expr (pe_bm PySem.F.plainAttrs_list PySem.F.slot_list_append PySem.F.type_list_append mt_append ho (pa_cons h.1 pa_nil hst) hbase hfew hline hst hplain) hs, fun E F H σ a g D DA R hw l => ?_⟩
  obtain ⟨q, ha, hw⟩ := onAdr_iff.mp hw
  exact ⟨.ref q, slot_adr R.r ha, app_core h R hw l⟩
end
end DS

namespace DS
open PySem PySem.Spec PyProof.Rows L2

/-! ### a dict of lists in the memory -/
theorem nd_inj {α β : Type} {f : α → β} : ∀ {l : List α}, (l.map f).Nodup → ∀ a, a ∈ l → ∀ b, b ∈ l → f a = f b → a = b
  | [], _, a, ha, _, _, _ => by cases ha
  | x :: l, h, a, ha, b, hb, e => by
    rw [List.map_cons, List.nodup_cons] at h
    rcases List.mem_cons.mp ha with ha' | ha
    · rcases List.mem_cons.mp hb with hb' | hb
      · rw [ha', hb']
      · exact absurd (List.mem_map.mpr ⟨b, hb, by rw [← e, ha']⟩) h.1
    · rcases List.mem_cons.mp hb with hb' | hb
      · exact absurd (List.mem_map.mpr ⟨a, ha, by rw [e, hb']⟩) h.1
      · exact nd_inj h.2 a ha b hb e
structure TabG {κ : Type} (mk : List (κ × D) → D) (g : Gm) (root : Addr) (es : List (κ × Addr × List D)) : Prop where
  top : gAt g root = some (mk (es.map fun e => (e.1, .adr e.2.1)))
  kid : ∀ e, e ∈ es → gAt g e.2.1 = some (.lst e.2.2)
  nd : (es.map fun e => e.2.1).Nodup
  nr : ∀ e, e ∈ es → e.2.1 ≠ root
  kd : (es.map fun e => e.1).Nodup
def tabOf {κ : Type} (es : List (κ × Addr × List D)) : List (κ × List D) := es.map fun e => (e.1, e.2.2)
def addT {κ : Type} [DecidableEq κ] (T : List (κ × List D)) (k : κ) (d : D) : List (κ × List D) :=
  if (T.any fun e => decide (e.1 = k)) = true then T.map (fun e => if e.1 = k then (e.1, e.2 ++ [d]) else e) else T ++ [(k, [d])]
section
variable {κ : Type} [DecidableEq κ] {mk : List (κ × D) → D} {g : Gm} {root : Addr} {es : List (κ × Addr × List D)} {key : κ}
theorem tab_nil (h : gAt g root = some (mk [])) : TabG mk g root [] := ⟨h, fun e he => absurd he (List.not_mem_nil), List.nodup_nil, fun e he => absurd he (List.not_mem_nil), List.nodup_nil⟩
theorem valD_es (key : κ) : ∀ es : List (κ × Addr × List D), (∃ e, e ∈ es ∧ e.1 = key ∧ valD (es.map fun e => (e.1, D.adr e.2.1)) key = some (.adr e.2.1) ∧ valD (tabOf es) key = some e.2.2) ∨ ((∀ e, e ∈ es → e.1 ≠ key) ∧ valD (es.map fun e => (e.1, D.adr e.2.1)) key = none ∧ valD (tabOf es) key = none)
  | [] => .inr ⟨fun e he => absurd he (List.not_mem_nil), valD_nil, valD_nil⟩
  | x :: es => by
    rw [List.map_cons, show tabOf (x :: es) = (x.1, x.2.2) :: tabOf es from rfl]
    by_cases e : x.1 = key
    · exact .inl ⟨x, List.mem_cons_self .., e, by rw [valD_cons, if_pos e], by rw [valD_cons, if_pos e]⟩
    · rcases valD_es key es with ⟨y, h1, h2, h3, h4⟩ | ⟨h1, h2, h3⟩
      · exact .inl ⟨y, List.mem_cons_of_mem _ h1, h2, by rw [valD_cons, if_neg e]; exact h3, by rw [valD_cons, if_neg e]; exact h4⟩
      · refine .inr ⟨fun y hy => ?_, by rw [valD_cons, if_neg e]; exact h2, by rw [valD_cons, if_neg e]; exact h3⟩
        rcases List.mem_cons.mp hy with rfl | hy
        · exact e
        · exact h1 y hy
theorem tab_step (h : TabG mk g root es) {k : Addr → Gm → Prop}
    (hc : ∀ q g2 xs, gAt g2 q = some (.lst xs) → xs = (valD (tabOf es) key).getD [] → (∀ d, ∃ es', TabG mk ((q, .lst (xs ++ [d])) :: g2) root es' ∧ tabOf es' = addT (tabOf es) key d) → k q g2) :
    sdK root g k (valD (es.map fun e => (e.1, .adr e.2.1)) key) (fun d => mk (putD (es.map fun e => (e.1, .adr e.2.1)) key d)) := by
  rcases valD_es key es with ⟨e, he, hk, hv, hv2⟩ | ⟨hn, hv, hv2⟩
  · rw [hv]
    have hq := h.kid e he
    refine hc e.2.1 g e.2.2 hq (by rw [hv2]; rfl) fun d => ⟨es.map fun x => if x.1 = key then (x.1, x.2.1, x.2.2 ++ [d]) else x, ?_, ?_⟩
    · have hm : ∀ {β : Type} (f : κ → Addr → β), (es.map fun x => if x.1 = key then (x.1, x.2.1, x.2.2 ++ [d]) else x).map (fun x => f x.1 x.2.1) = es.map fun x => f x.1 x.2.1 := fun f => by
        rw [List.map_map]
        refine List.map_congr_left fun x _ => ?_
        show f (if x.1 = key then _ else x).1 (if x.1 = key then _ else x).2.1 = _
        split <;> rfl
      refine ⟨?_, fun x hx => ?_, ?_, fun x hx => ?_, ?_⟩
      · rw [gAt_ne (h.nr e he), h.top]
        rw [show ((es.map fun x => if x.1 = key then (x.1, x.2.1, x.2.2 ++ [d]) else x).map fun e => (e.1, D.adr e.2.1)) = es.map fun e => (e.1, D.adr e.2.1) from hm fun a b => (a, D.adr b)]
      · obtain ⟨y, hy, rfl⟩ := List.mem_map.mp hx
        by_cases z : y.1 = key
        · obtain rfl := nd_inj h.kd y hy e he (by rw [z, hk])
          rw [if_pos z]
          exact gAt_same
        · rw [if_neg z]
          have : e.2.1 ≠ y.2.1 := fun w => z (by rw [← nd_inj h.nd e he y hy w]; exact hk)
          rw [gAt_ne this]
          exact h.kid y hy
      · rw [show ((es.map fun x => if x.1 = key then (x.1, x.2.1, x.2.2 ++ [d]) else x).map fun e => e.2.1) = es.map fun e => e.2.1 from hm fun a b => b]
        exact h.nd
      · obtain ⟨y, hy, rfl⟩ := List.mem_map.mp hx
        have := h.nr y hy
        split
        · exact this
        · exact this
      · rw [show ((es.map fun x => if x.1 = key then (x.1, x.2.1, x.2.2 ++ [d]) else x).map fun e => e.1) = es.map fun e => e.1 from hm fun a b => a]
        exact h.kd
    · have hany : ((tabOf es).any fun e => decide (e.1 = key)) = true := List.any_eq_true.mpr ⟨(e.1, e.2.2), List.mem_map.mpr ⟨e, he, rfl⟩, by simpa using hk⟩
      unfold addT
      rw [if_pos hany]
      unfold tabOf
      rw [List.map_map, List.map_map]
      refine List.map_congr_left fun x _ => ?_
      show ((if x.1 = key then (x.1, x.2.1, x.2.2 ++ [d]) else x).1, (if x.1 = key then (x.1, x.2.1, x.2.2 ++ [d]) else x).2.2) = if x.1 = key then (x.1, x.2.2 ++ [d]) else (x.1, x.2.2)
      split <;> rfl
  · rw [hv]
    intro q hq
    have hqr : root ≠ q := fun z => by rw [← z, h.top] at hq; cases hq
    have hqk : ∀ e, e ∈ es → e.2.1 ≠ q := fun e he z => by
      have := h.kid e he
      rw [z, hq] at this
      cases this
    have hg : gAt ((root, mk (putD (es.map fun e => (e.1, D.adr e.2.1)) key (.adr q))) :: (q, .lst []) :: g) q = some (.lst []) := by rw [gAt_ne hqr]; exact gAt_same
    refine hc q _ [] hg (by rw [hv2]; rfl) fun d => ⟨es ++ [(key, q, [d])], ?_, ?_⟩
    · refine ⟨?_, fun x hx => ?_, ?_, fun x hx => ?_, ?_⟩
      · rw [gAt_ne (Ne.symm hqr), gAt_same]
        refine congrArg (fun z => some (mk z)) ?_
        show putD (es.map fun e => (e.1, D.adr e.2.1)) key (D.adr q) = _
        unfold putD
        rw [if_neg, List.map_append]
        · rfl
        · intro z
          obtain ⟨y, hy, hz⟩ := List.any_eq_true.mp z
          obtain ⟨x, hx, rfl⟩ := List.mem_map.mp hy
          exact hn x hx (by simpa using hz)
      · rcases List.mem_append.mp hx with hx | hx
        · rw [gAt_ne (Ne.symm (hqk x hx)), gAt_ne (Ne.symm (h.nr x hx)), gAt_ne (Ne.symm (hqk x hx))]
          exact h.kid x hx
        · obtain rfl := List.mem_singleton.mp hx
          exact gAt_same
      · rw [List.map_append, List.nodup_append]
        refine ⟨h.nd, by simp, fun a ha b hb => ?_⟩
        obtain ⟨x, hx, rfl⟩ := List.mem_map.mp ha
        obtain rfl : b = q := by simpa using hb
        exact hqk x hx
      · rcases List.mem_append.mp hx with hx | hx
        · exact h.nr x hx
        · obtain rfl := List.mem_singleton.mp hx
          exact Ne.symm hqr
      · rw [List.map_append, List.nodup_append]
        refine ⟨h.kd, by simp, fun a ha b hb => ?_⟩
        obtain ⟨x, hx, rfl⟩ := List.mem_map.mp ha
        obtain rfl : b = key := by simpa using hb
        exact hn x hx
    · unfold addT tabOf
      rw [if_neg, List.map_append]
      · rfl
      · intro z
        obtain ⟨y, hy, hz⟩ := List.any_eq_true.mp z
        obtain ⟨x, hx, rfl⟩ := List.mem_map.mp hy
        exact hn x hx (by simpa using hz)
end
theorem sd_tabT {g : Gm} {root : Addr} {es : List (List L2.Key × Addr × List D)} {key : List L2.Key} {ys : List D} (h : TabG D.dT g root es) (hk : keysD ys = some key) (hl : es.length < sizeLine) {k : Addr → Gm → Prop}
    (hc : ∀ q g2 xs, gAt g2 q = some (.lst xs) → xs = (valD (tabOf es) key).getD [] → (∀ d, ∃ es', TabG D.dT ((q, .lst (xs ++ [d])) :: g2) root es' ∧ tabOf es' = addT (tabOf es) key d) → k q g2) :
    sdS (.dT (es.map fun e => (e.1, .adr e.2.1))) (.tup ys) (sdK root g k) := onO_of hk ⟨by rw [List.length_map]; exact hl, tab_step h hc⟩
theorem sd_tabK {g : Gm} {root : Addr} {es : List (L2.Key × Addr × List D)} {key : L2.Key} {y : D} (h : TabG D.dK g root es) (hk : keyD y = some key) (hl : es.length < sizeLine) {k : Addr → Gm → Prop}
    (hc : ∀ q g2 xs, gAt g2 q = some (.lst xs) → xs = (valD (tabOf es) key).getD [] → (∀ d, ∃ es', TabG D.dK ((q, .lst (xs ++ [d])) :: g2) root es' ∧ tabOf es' = addT (tabOf es) key d) → k q g2) :
    sdS (.dK (es.map fun e => (e.1, .adr e.2.1))) y (sdK root g k) := onO_of hk ⟨by rw [List.length_map]; exact hl, tab_step h hc⟩
/-- the lists join the frozen part -/
theorem freezeKids {κ : Type} {K : PySem.W.Frag} {E : En} {H : Hp} {σ : L2.St} {a : PSt} : ∀ (es : List (κ × Addr × List D)) (F : Hp) (g : Gm), RelG K E F H σ a g → (∀ e, e ∈ es → gAt g e.2.1 = some (.lst e.2.2)) → (es.map fun e => e.2.1).Nodup →
    ∃ F2 g2, Same F F2 ∧ RelG K E F2 H σ a g2 ∧ RepA K F2 (es.map fun e => (e.1, V.ref e.2.1)) (es.map fun e => (e.1, D.lst e.2.2)) ∧ ∀ q, (∀ e, e ∈ es → e.2.1 ≠ q) → gAt g2 q = gAt g q
  | [], F, g, R, _, _ => ⟨F, g, Same.refl F, R, .nil, fun _ _ => rfl⟩
  | e :: es, F, g, R, hk, hn => by
    rw [List.map_cons, List.nodup_cons] at hn
    have gf : ∀ q, gAt (g.filter fun x => decide (x.1 ≠ e.2.1)) q = if q = e.2.1 then none else gAt g q := fun q => by
      clear hk R
      induction g with
      | nil => rw [List.filter_nil]; split <;> rfl
      | cons x g ih =>
        by_cases z : x.1 = e.2.1
        · rw [List.filter_cons_of_neg (by simpa using z), ih]
          split
          · rfl
          · rename_i hq
            rw [show x = (x.1, x.2) from rfl, gAt_ne (fun y => hq (by rw [← y]; exact z))]
        · rw [List.filter_cons_of_pos (by simpa using z), show x = (x.1, x.2) from rfl, gAt_cons, gAt_cons, ih]
          by_cases y : x.1 = q
          · rw [if_pos y, if_pos y, if_neg (fun w => z (by rw [y]; exact w))]
          · rw [if_neg y, if_neg y]
    obtain ⟨F1, s1, R1, r1⟩ := R.freezeM (hk e (List.mem_cons_self ..)) (g.filter fun x => decide (x.1 ≠ e.2.1)) (fun q c hq => by
      rw [gf] at hq
      split at hq
      · cases hq
      · exact ⟨by assumption, hq⟩)
    obtain ⟨F2, g2, s2, R2, r2, hg⟩ := freezeKids es F1 _ R1 (fun x hx => by
      rw [gf, if_neg (fun z => hn.1 (List.mem_map.mpr ⟨x, hx, z⟩))]
      exact hk x (List.mem_cons_of_mem _ hx)) hn.2
    refine ⟨F2, g2, s1.trans s2, R2, .cons (r1.mono s2) r2, fun q hq => ?_⟩
    rw [hg q fun x hx => hq x (List.mem_cons_of_mem _ hx), gf, if_neg (fun z => hq e (List.mem_cons_self ..) z.symm)]
theorem reps_adr {κ : Type} {K : PySem.W.Frag} {F : Hp} : ∀ (es : List (κ × Addr × List D)) (vs : List (κ × V)), RepA K F vs (es.map fun e => (e.1, D.adr e.2.1)) → vs = es.map fun e => (e.1, V.ref e.2.1)
  | [], vs, r => by cases r; rfl
  | e :: es, vs, r => by
    rw [List.map_cons] at r
    cases r with
    | cons h t => cases h; rw [List.map_cons, reps_adr es _ t]
theorem tab_freezeT {K : PySem.W.Frag} {E : En} {F H : Hp} {σ : L2.St} {a : PSt} {g : Gm} {root : Addr} {es : List (List L2.Key × Addr × List D)} (R : RelG K E F H σ a g) (h : TabG D.dT g root es) :
    ∃ F2, Same F F2 ∧ Rel K E F2 H σ a ∧ Rep K F2 (.ref root) (.dT (es.map fun e => (e.1, D.lst e.2.2))) := by
  obtain ⟨F1, g1, s1, R1, r1, hg⟩ := freezeKids es F g R h.kid h.nd
  have hr : gAt g1 root = some (D.dT (es.map fun e => (e.1, .adr e.2.1))) := by rw [hg root h.nr]; exact h.top
  obtain ⟨f1, f2, f3, o, ho, t⟩ := R1.m root _ hr
  cases t with
  | dT r =>
    obtain rfl := reps_adr es _ r
    obtain ⟨s2, R2⟩ := R1.r.freeze ho f1 f2 f3
    exact ⟨_, s1.trans s2, R2, .dT upd_same (r1.mono s2)⟩
theorem tab_freezeK {K : PySem.W.Frag} {E : En} {F H : Hp} {σ : L2.St} {a : PSt} {g : Gm} {root : Addr} {es : List (L2.Key × Addr × List D)} (R : RelG K E F H σ a g) (h : TabG D.dK g root es) :
    ∃ F2, Same F F2 ∧ Rel K E F2 H σ a ∧ Rep K F2 (.ref root) (.dK (es.map fun e => (e.1, D.lst e.2.2))) := by
  obtain ⟨F1, g1, s1, R1, r1, hg⟩ := freezeKids es F g R h.kid h.nd
  have hr : gAt g1 root = some (D.dK (es.map fun e => (e.1, .adr e.2.1))) := by rw [hg root h.nr]; exact h.top
  obtain ⟨f1, f2, f3, o, ho, t⟩ := R1.m root _ hr
  cases t with
  | dK r =>
    obtain rfl := reps_adr es _ r
    obtain ⟨s2, R2⟩ := R1.r.freeze ho f1 f2 f3
    exact ⟨_, s1.trans s2, R2, .dK upd_same (r1.mono s2)⟩
section
variable {X : Cx} {W : L2.St → XK} {pos : Pos} {o : Expr} {i : Nat}
/-- return x, a dict of lists -/
def wmRetT (i : Nat) : WM := fun g DA a => onAdr a[i]? fun root => ∃ es : List (List L2.Key × Addr × List D), TabG D.dT g root es ∧ DA.rt ⟨.no, .dT ((tabOf es).map fun e => (e.1, .lst e.2))⟩ a
def wmRetK (i : Nat) : WM := fun g DA a => onAdr a[i]? fun root => ∃ es : List (L2.Key × Addr × List D), TabG D.dK g root es ∧ DA.rt ⟨.no, .dK ((tabOf es).map fun e => (e.1, .lst e.2))⟩ a
theorem sm_retT (ho : PE X o (tVar i)) : SM X W (.Return (some o) pos) (tRet (tVar i)) (wmRetT i) := by
  refine ⟨ps_ret ho, fun E F H σ a g DE DA R hw l => ?_⟩
  obtain ⟨root, ha, es, h, hr⟩ := onAdr_iff.mp hw
  obtain ⟨F2, s, R2, rp⟩ := tab_freezeT R h
  exact ⟨.ref root, slot_adr R.r ha, l.rt σ F2 H a _ _ s R2 (by unfold tabOf at *; rw [List.map_map]; exact rp) hr⟩
theorem sm_retK (ho : PE X o (tVar i)) : SM X W (.Return (some o) pos) (tRet (tVar i)) (wmRetK i) := by
  refine ⟨ps_ret ho, fun E F H σ a g DE DA R hw l => ?_⟩
  obtain ⟨root, ha, es, h, hr⟩ := onAdr_iff.mp hw
  obtain ⟨F2, s, R2, rp⟩ := tab_freezeK R h
  exact ⟨.ref root, slot_adr R.r ha, l.rt σ F2 H a _ _ s R2 (by unfold tabOf at *; rw [List.map_map]; exact rp) hr⟩
end
/-- a def's body over the memory -/
def mEnds (D : EndsA) : EndsG where
  nx := fun _ => D.nx
  rt := D.rt
  bk := fun _ => D.bk
  ct := fun _ => D.ct
  ex := D.ex
def wsOfM (w : WM) : WS := fun D a => w [] (mEnds D) a
theorem sss_ofM {X : Cx} {W : L2.St → XK} {st : List Stmt} {t : TS} {w : WM} (h : SMs X W st t w) : SSs X W st t (wsOfM w) :=
  ⟨h.1, fun E F H σ a D DA R hw l => h.2 E F H σ a [] D (mEnds DA) ⟨R, mem_nil⟩ hw ⟨fun σ' F' H' a' g e R' q => l.nx σ' F' H' a' e R'.r q, fun σ' F' H' a' g e R' q => l.bk σ' F' H' a' e R'.r q, fun σ' F' H' a' g e R' q => l.ct σ' F' H' a' e R'.r q, l.rt, l.ex⟩⟩
end DS

namespace DS
open PySem PySem.Spec PyProof.Rows L2

/-! ### reading along a path into the memory -/
abbrev WQ := Gm → PSt → (D → Prop) → Prop
def SQ (X : Cx) (e : Expr) (t : TE) (wr : WQ) : Prop := PE X e t ∧ ∀ E F H σ a g Q f, RelG X.K E F H σ a g → wr g a f → (∀ v d, Rep X.K F v d → f d → Q v H) → t σ H Q
section
variable {X : Cx} {W : L2.St → XK} {e b : Expr} {pos : Pos} {ta tb t : TE} {w : WE} {wr : WQ}
def wqVar (i : Nat) : WQ := fun g a f => match a[i]? with
  | some (some ⟨.no, d⟩) => f d
  | _ => False
theorem sq_var {i : Nat} (h : PE X e (tVar i)) : SQ X e (tVar i) (wqVar i) := by
  refine ⟨h, fun E F H σ a g Q f R hw k => ?_⟩
  unfold wqVar at hw
  split at hw
  · rename_i d hd
    obtain ⟨v, e1, q⟩ := R.r.sl i _ hd
    exact ⟨v, e1, k v d q hw⟩
  · exact hw.elim
def wqIx (i : Int) (wr : WQ) : WQ := fun g a f => wr g a fun d => match d with
  | .adr p => onLs (gAt g p) fun xs => onO (atI xs i) f
  | .tup xs => onO (atI xs i) f
  | .lst xs => onO (atI xs i) f
  | _ => False
theorem sq_ix {i : Int} (h : SQ X e ta wr) (hb : PE X b tb) (hs : PlainIx b) (hi : ∀ σ H Q, Q (.int i) H → tb σ H Q) : SQ X (.Subscript e b pos) (tOp (rIx X.K) ta tb) (wqIx i wr) := by
  refine ⟨pe_ix ix_seq h.1 hb hs, fun E F H σ a g Q f R hw k => h.2 E F H σ a g _ _ R hw fun v d rp hd => hi σ H _ ?_⟩
  split at hd
  · rename_i p
    cases rp
    obtain ⟨xs, hx, hd⟩ := onLs_iff.mp hd
    obtain ⟨d, hat, hf⟩ := onO_iff.mp hd
    obtain ⟨_, _, _, o, ho, tt⟩ := R.m p _ hx
    obtain ⟨vs, rfl, r⟩ := top_lst tt
    obtain ⟨u, hu, ru⟩ := r.atI hat
    exact .inl ⟨p, vs, i, u, rfl, rfl, .of ho, hu, k u d ru hf⟩
  · obtain ⟨d, hat, hf⟩ := onO_iff.mp hd
    cases rp with
    | tup hF r =>
      obtain ⟨u, hu, ru⟩ := r.atI hat
      exact .inr (.inl ⟨_, _, i, u, rfl, rfl, .of (R.r.ext _ _ hF), hu, k u d ru hf⟩)
  · obtain ⟨d, hat, hf⟩ := onO_iff.mp hd
    cases rp with
    | lst hF r =>
      obtain ⟨u, hu, ru⟩ := r.atI hat
      exact .inl ⟨_, _, i, u, rfl, rfl, .of (R.r.ext _ _ hF), hu, k u d ru hf⟩
  · exact hd.elim
/-- x[..][..].append(e) -/
def wmQApp (wr : WQ) (w : WE) : WM := fun g D a => wr g a fun d => match d with
  | .adr q => onLs (gAt g q) fun _ => w a (fun r a2 => fz r a2 fun d a3 => onLs (gAt g q) fun xs => xs.length < sizeLine ∧ D.nx ((q, .lst (xs ++ [d])) :: g) a3) D.ex
  | _ => False
theorem sm_qapp {o : Expr} {apos cpos : Pos} (ho : SQ X o t wr) (h : SE X W e ta w) (hbase : attributeBase o "append" X.env (eval o X.env) = eval o X.env := by rfl)
    (hfew : ((backTo cpos (starEach [e] X.env)).all (fun x => !x.1) && (backToKw cpos (keywordEach [] X.env)).all (fun x => x.1.isSome) && decide (([e] : List Expr).length + ([] : List Keyword).length + (if ([] : List Keyword).isEmpty then 0 else 1) < 30)) = true := by rfl)
    (hline : (apos.endLine == cpos.line) = true := by rfl) (hst : starEach [e] X.env = (false, eval e X.env) :: starEach [] X.env := by rfl) (hplain : (backTo cpos (starEach [] X.env)).any (·.1) = false := by rfl)
    (hs : swapsWith (.Call (.Attribute o "append" apos) [e] [] cpos) none pos.line X.env = pure false := by rfl) :
    SM X W (.Expr (.Call (.Attribute o "append" apos) [e] [] cpos) pos) (tDrop (tBM X.K "list" rAppend t (tCons ta tNil))) (wmQApp wr w) := by
  refine ⟨ps_expr (pe_bm PySem.F.plainAttrs_list PySem.F.slot_list_append PySem.F.type_list_append mt_append ho.1 (pa_cons h.1 pa_nil hst) hbase hfew hline hst hplain) hs, fun E F H σ a g D DA R hw l => ?_⟩
  refine ho.2 E F H σ a g _ _ R hw fun v d rp hd => ?_
  split at hd
  · cases rp
    exact app_core h R hd l
  · exact hd.elim
/-- x = [], remembered -/
def wmNewL (i : Nat) : WM := fun g D a => ∀ p, gAt g p = none → D.nx ((p, .lst []) :: g) (a.set i (some ⟨.no, .adr p⟩))
theorem sm_newL {i : Nat} {x : Str} {pos' p2 : Pos} (hN : X.N.Nodup) (hi : X.N[i]? = some x) (hx : Loc X.env.scope x) (hs : swapsWith (.List [] p2) (some (.Name x pos')) pos.line X.env = pure false := by rfl) (hf : X.fn x = true ∨ X.env.scope.names.lookup x = some .local := by first | exact .inl rfl | exact .inr rfl | assumption) :
    SM X W (.Assign [.Name x pos'] (.List [] p2) pos) (tAsg (tLst tNil) (gName i)) (wmNewL i) :=
  ⟨ps_set hN hi hx (pe_lst pa_nil) hs hf, fun E F H σ a g D DA R hw l => ⟨by simp, fun p hp => l.nx _ F _ _ _ (Same.refl F) ((R.layM hp (.lst .nil)).setDat (.adr p)) (hw p (gAt_free R hp))⟩⟩
theorem RelG.layF {K : PySem.W.Frag} {E : En} {F H : Hp} {σ : L2.St} {a : PSt} {g : Gm} (R : RelG K E F H σ a g) {p : Addr} (o : HO) (h : H p = none) : Same F (upd F p o) ∧ RelG K E (upd F p o) (upd H p o) σ a g := by
  obtain ⟨s, R2⟩ := R.r.layF o h
  refine ⟨s, R2, fun q d e => ?_⟩
  obtain ⟨f1, f2, f3, u, hu, t⟩ := R.m q d e
  have hne : q ≠ p := ne_of_none hu h
  exact ⟨by rw [upd_ne hne]; exact f1, f2, f3, u, by rw [upd_ne hne]; exact hu, t.mono s⟩
/-- x.append((a, [b])): the list is remembered -/
def wmAppTL (i : Nat) (wa wb : WE) : WM := fun g D a => onAdr a[i]? fun root => onLs (gAt g root) fun _ => wa a (fun r a1 => fz r a1 fun da a2 => wb a2 (fun r a3 => fz r a3 fun db a4 =>
  onLs (gAt g root) fun xs => xs.length < sizeLine ∧ ∀ q, gAt g q = none → q ≠ root → D.nx ((root, .lst (xs ++ [.tup [da, .adr q]])) :: (q, .lst [db]) :: g) a4) D.ex) D.ex
theorem sm_apptl {i : Nat} {o ea eb : Expr} {tea teb : TE} {wa wb : WE} {x1} {lp tp apos cpos : Pos} (ho : PE X o (tVar i)) (ha : SE X W ea tea wa) (hb : SE X W eb teb wb)
    (hl : starEach [eb] X.env = (false, eval eb X.env) :: starEach [] X.env := by rfl)
    (ht1 : starEach [ea, .List [eb] lp] X.env = (false, eval ea X.env) :: starEach [.List [eb] lp] X.env := by rfl) (ht2 : starEach [.List [eb] lp] X.env = (false, eval (.List [eb] lp) X.env) :: starEach [] X.env := by rfl)
    (hbase : attributeBase o "append" X.env (eval o X.env) = eval o X.env := by rfl)
    (hfew : ((backTo cpos (starEach [.Tuple [ea, .List [eb] lp] x1 tp] X.env)).all (fun x => !x.1) && (backToKw cpos (keywordEach [] X.env)).all (fun x => x.1.isSome) && decide (([Expr.Tuple [ea, .List [eb] lp] x1 tp] : List Expr).length + ([] : List Keyword).length + (if ([] : List Keyword).isEmpty then 0 else 1) < 30)) = true := by rfl)
    (hline : (apos.endLine == cpos.line) = true := by rfl) (hst : starEach [.Tuple [ea, .List [eb] lp] x1 tp] X.env = (false, eval (.Tuple [ea, .List [eb] lp] x1 tp) X.env) :: starEach [] X.env := by rfl) (hplain : (backTo cpos (starEach [] X.env)).any (·.1) = false := by rfl)
    (hs : swapsWith (.Call (.Attribute o "append" apos) [.Tuple [ea, .List [eb] lp] x1 tp] [] cpos) none pos.line X.env = pure false := by rfl) :
    SM X W (.Expr (.Call (.Attribute o "append" apos) [.Tuple [ea, .List [eb] lp] x1 tp] [] cpos) pos) (tDrop (tBM X.K "list" rAppend (tVar i) (tCons (tTup (tCons tea (tCons (tLst (tCons teb tNil)) tNil))) tNil))) (wmAppTL i wa wb) := by
  refine ⟨ps_expr (pe_bm PySem.F.plainAttrs_list PySem.F.slot_list_append PySem.F.type_list_append mt_append ho (pa_cons (pe_tup (pa_cons ha.1 (pa_cons (pe_lst (pa_cons hb.1 pa_nil hl)) pa_nil ht2) ht1)) pa_nil hst) hbase hfew hline hst hplain) hs, fun E F H σ a g D DA R hw l => ?_⟩
  obtain ⟨root, hr, hw⟩ := onAdr_iff.mp hw
  obtain ⟨xs, hx, hw⟩ := onLs_iff.mp hw
  obtain ⟨_, _, _, o0, ho0, t0⟩ := R.m root _ hx
  obtain ⟨vs, rfl, _⟩ := top_lst t0
  refine ⟨.ref root, slot_adr R.r hr, .inl ⟨rfl, vs, .of ho0⟩, ha.2 (E.mem H g) F H σ a _ _ _ R.to hw (fun va ra F1 H1 a1 e1 R1 rp1 hq1 => ?_) (lx_mem R (l.ex σ))⟩
  obtain ⟨F2, a2, da, s2, R2, rpa, hq2⟩ := fz_ok R1 rp1 hq1
  have R2 := R.of (e1.trans s2) R2
  refine hb.2 (E.mem H1 g) F2 H1 σ a2 _ _ _ R2.to hq2 (fun vb rb F3 H3 a3 e3 R3 rp3 hq3 => ?_) (lx_mem R2 ((l.ex σ).to (e1.trans s2)))
  obtain ⟨F4, a4, db, s4, R4, rpb, hq4⟩ := fz_ok R3 rp3 hq3
  have R4 := R2.of (e3.trans s4) R4
  obtain ⟨ys, hy, hz, hk⟩ := onLs_iff.mp hq4
  refine ⟨small (by simp), fun q hq => ⟨small (by simp), fun tt ht => ?_⟩⟩
  have hgq : gAt g q = none := gAt_free R4 hq
  have R5 := R4.layM hq (Top.lst (K := X.K) (F := F4) (.cons rpb .nil))
  obtain ⟨s5, R6⟩ := R5.layF (.tup [va, .ref q]) ht
  have hqr : q ≠ root := fun z => by rw [z, hy] at hgq; cases hgq
  have hy2 : gAt ((q, .lst [db]) :: g) root = some (.lst ys) := by rw [gAt_ne hqr]; exact hy
  obtain ⟨_, _, _, o6, ho6, t6⟩ := R6.m root _ hy2
  obtain ⟨us, rfl, r6⟩ := top_lst t6
  have sAll : Same F (upd F4 tt (.tup [va, .ref q])) := (((e1.trans s2).trans e3).trans s4).trans s5
  refine ⟨root, us, .ref tt, rfl, rfl, ho6, by rw [r6.length]; exact hz, l.nx _ _ _ _ _ sAll (R6.writeM hy2 (.lst (r6.append (.cons (.tup upd_same (.cons ((rpa.mono (e3.trans s4)).mono s5) (.cons (.adr q) .nil))) .nil)))) (hk q hgq hqr)⟩
end
/-! ### lists of such -/
structure LisG (mk : D → Addr → D) (g : Gm) (root : Addr) (es : List (D × Addr × List D)) : Prop where
  top : gAt g root = some (.lst (es.map fun e => mk e.1 e.2.1))
  kid : ∀ e, e ∈ es → gAt g e.2.1 = some (.lst e.2.2)
  nd : (es.map fun e => e.2.1).Nodup
  nr : ∀ e, e ∈ es → e.2.1 ≠ root
section
variable {mk : D → Addr → D} {g : Gm} {root : Addr} {es : List (D × Addr × List D)}
theorem lis_nil (h : gAt g root = some (.lst [])) : LisG mk g root [] := ⟨h, fun e he => absurd he (List.not_mem_nil), List.nodup_nil, fun e he => absurd he (List.not_mem_nil)⟩
theorem lis_new (h : LisG mk g root es) {q : Addr} {d : D} {l : List D} (hq : gAt g q = none) : LisG mk ((root, .lst ((es.map fun e => mk e.1 e.2.1) ++ [mk d q])) :: (q, .lst l) :: g) root (es ++ [(d, q, l)]) := by
  have hqr : root ≠ q := fun z => by rw [← z, h.top] at hq; cases hq
  have hqk : ∀ e, e ∈ es → e.2.1 ≠ q := fun e he z => by
    have := h.kid e he
    rw [z, hq] at this
    cases this
  refine ⟨by rw [gAt_same, List.map_append]; rfl, fun x hx => ?_, ?_, fun x hx => ?_⟩
  · rcases List.mem_append.mp hx with hx | hx
    · rw [gAt_ne (Ne.symm (h.nr x hx)), gAt_ne (Ne.symm (hqk x hx))]
      exact h.kid x hx
    · obtain rfl := List.mem_singleton.mp hx
      rw [gAt_ne hqr]
      exact gAt_same
  · rw [List.map_append, List.nodup_append]
    refine ⟨h.nd, by simp, fun a ha b hb => ?_⟩
    obtain ⟨x, hx, rfl⟩ := List.mem_map.mp ha
    obtain rfl : b = q := by simpa using hb
    exact hqk x hx
  · rcases List.mem_append.mp hx with hx | hx
    · exact h.nr x hx
    · obtain rfl := List.mem_singleton.mp hx
      exact Ne.symm hqr
theorem lis_app {d : D} {q : Addr} {l : List D} (h : LisG mk g root (es ++ [(d, q, l)])) (x : D) : LisG mk ((q, .lst (l ++ [x])) :: g) root (es ++ [(d, q, l ++ [x])]) := by
  have hm : ∀ {β : Type} (f : D → Addr → β), (es ++ [(d, q, l ++ [x])]).map (fun e => f e.1 e.2.1) = (es ++ [(d, q, l)]).map fun e => f e.1 e.2.1 := fun f => by rw [List.map_append, List.map_append]; rfl
  have hqr := h.nr (d, q, l) (by simp)
  refine ⟨?_, fun y hy => ?_, ?_, fun y hy => ?_⟩
  · rw [gAt_ne hqr, h.top]
    rw [show (es ++ [(d, q, l ++ [x])]).map (fun e => mk e.1 e.2.1) = (es ++ [(d, q, l)]).map fun e => mk e.1 e.2.1 from hm mk]
  · rcases List.mem_append.mp hy with hy | hy
    · have hn := h.nd
      rw [List.map_append, List.nodup_append] at hn
      have : y.2.1 ≠ q := hn.2.2 _ (List.mem_map.mpr ⟨y, hy, rfl⟩) q (by simp)
      rw [gAt_ne (Ne.symm this)]
      exact h.kid y (List.mem_append_left _ hy)
    · obtain rfl := List.mem_singleton.mp hy
      exact gAt_same
  · rw [show (es ++ [(d, q, l ++ [x])]).map (fun e => e.2.1) = (es ++ [(d, q, l)]).map fun e => e.2.1 from hm fun _ b => b]
    exact h.nd
  · rcases List.mem_append.mp hy with hy | hy
    · exact h.nr y (List.mem_append_left _ hy)
    · obtain rfl := List.mem_singleton.mp hy
      exact hqr
end
theorem repA_mem {κ : Type} {K : PySem.W.Frag} {F : Hp} {f : D × Addr × List D → V} {h : D × Addr × List D → D} : ∀ (es : List (D × Addr × List D)), RepA K F (es.map fun e => (e.1, f e)) (es.map fun e => (e.1, h e)) → ∀ e, e ∈ es → Rep K F (f e) (h e)
  | [], _, e, he => absurd he (List.not_mem_nil)
  | x :: es, r, e, he => by
    rw [List.map_cons, List.map_cons] at r
    cases r with
    | cons r1 t =>
      rcases List.mem_cons.mp he with rfl | he
      · exact r1
      · exact repA_mem (κ := κ) es t e he
theorem lis_freeze {mk : D → Addr → D} {mkF : D → List D → D} {K : PySem.W.Frag} {E : En} {F H : Hp} {σ : L2.St} {a : PSt} {g : Gm} {root : Addr} {es : List (D × Addr × List D)} (R : RelG K E F H σ a g) (h : LisG mk g root es)
    (hmk : ∀ (F : Hp) v d q xs, Rep K F v (mk d q) → Rep K F (.ref q) (.lst xs) → Rep K F v (mkF d xs)) : ∃ F2, Same F F2 ∧ Rel K E F2 H σ a ∧ Rep K F2 (.ref root) (.lst (es.map fun e => mkF e.1 e.2.2)) := by
  obtain ⟨F1, g1, s1, R1, r1, hg⟩ := freezeKids es F g R h.kid h.nd
  have hr : gAt g1 root = some (D.lst (es.map fun e => mk e.1 e.2.1)) := by rw [hg root h.nr]; exact h.top
  obtain ⟨f1, f2, f3, o, ho, t⟩ := R1.m root _ hr
  obtain ⟨vs, rfl, r⟩ := top_lst t
  obtain ⟨s2, R2⟩ := R1.r.freeze ho f1 f2 f3
  have hk := repA_mem (κ := D) (f := fun e => V.ref e.2.1) (h := fun e => D.lst e.2.2) es r1
  have go : ∀ (l : List (D × Addr × List D)) (us : List V), (∀ e, e ∈ l → e ∈ es) → Reps K F1 us (l.map fun e => mk e.1 e.2.1) → Reps K F1 us (l.map fun e => mkF e.1 e.2.2) := by
    intro l
    induction l with
    | nil => intro us _ q; cases q; exact .nil
    | cons x l ih =>
      intro us hl q
      rw [List.map_cons] at q
      cases q with
      | cons q1 qt => exact .cons (hmk F1 _ _ _ _ q1 (hk x (hl x (List.mem_cons_self ..)))) (ih _ (fun e he => hl e (List.mem_cons_of_mem _ he)) qt)
  exact ⟨_, s1.trans s2, R2, .lst upd_same ((go es vs (fun _ h => h) r).mono s2)⟩
def mkT (d : D) (q : Addr) : D := .tup [d, .adr q]
def mkTF (d : D) (xs : List D) : D := .tup [d, .lst xs]
def mkL (_ : D) (q : Addr) : D := .adr q
def mkLF (_ : D) (xs : List D) : D := .lst xs
theorem mkT_ok {K : PySem.W.Frag} (F : Hp) (v : V) (d : D) (q : Addr) (xs : List D) (h1 : Rep K F v (mkT d q)) (h2 : Rep K F (.ref q) (.lst xs)) : Rep K F v (mkTF d xs) := by
  unfold mkT at h1
  cases h1 with
  | tup hf r =>
    cases r with
    | cons r1 r2 =>
      cases r2 with
      | cons r3 r4 =>
        cases r4
        cases r3
        exact .tup hf (.cons r1 (.cons h2 .nil))
theorem mkL_ok {K : PySem.W.Frag} (F : Hp) (v : V) (d : D) (q : Addr) (xs : List D) (h1 : Rep K F v (mkL d q)) (h2 : Rep K F (.ref q) (.lst xs)) : Rep K F v (mkLF d xs) := by
  unfold mkL at h1
  cases h1
  exact h2
theorem rel_same {K : PySem.W.Frag} {E : En} {F H : Hp} {σ : L2.St} {a : PSt} (R : Rel K E F H σ a) {i : Nat} {v : V} {d : D} (hv : σ[i]? = some (some v)) (r : Rep K F v d) : Rel K E F H σ (a.set i (some ⟨.no, d⟩)) := by
  have h := R.setDat (i := i) r
  have : σ.set i (some v) = σ := by
    refine List.ext_getElem? fun j => ?_
    by_cases e : i = j
    · subst e
      have hi := (List.getElem?_eq_some_iff.mp hv).1
      rw [List.getElem?_set_self hi, hv]
    · rw [List.getElem?_set_ne e]
  rw [this] at h
  exact h
section
variable {X : Cx} {W : L2.St → XK} {st : List Stmt} {t : TS} {w : WM}
/-- from here on the list in slot i is data -/
def wmFzT (i : Nat) (w : WM) : WM := fun g DA a => onAdr a[i]? fun root => ∃ es : List (D × Addr × List D), LisG mkT g root es ∧ w [] DA (a.set i (some ⟨.no, .lst (es.map fun e => mkTF e.1 e.2.2)⟩))
def wmFzL (i : Nat) (w : WM) : WM := fun g DA a => onAdr a[i]? fun root => ∃ es : List (D × Addr × List D), LisG mkL g root es ∧ w [] DA (a.set i (some ⟨.no, .lst (es.map fun e => mkLF e.1 e.2.2)⟩))
theorem sms_fzT (i : Nat) (h : SMs X W st t w) : SMs X W st t (wmFzT i w) := by
  refine ⟨h.1, fun E F H σ a g D DA R hw l => ?_⟩
  obtain ⟨root, hr, es, hL, hk⟩ := onAdr_iff.mp hw
  obtain ⟨F2, s, R2, rp⟩ := lis_freeze R hL (mkF := mkTF) fun F v d q xs => mkT_ok F v d q xs
  exact h.2 E F2 H σ _ [] D DA ⟨rel_same R2 (slot_adr R.r hr) rp, mem_nil⟩ hk (l.to s)
theorem sms_fzL (i : Nat) (h : SMs X W st t w) : SMs X W st t (wmFzL i w) := by
  refine ⟨h.1, fun E F H σ a g D DA R hw l => ?_⟩
  obtain ⟨root, hr, es, hL, hk⟩ := onAdr_iff.mp hw
  obtain ⟨F2, s, R2, rp⟩ := lis_freeze R hL (mkF := mkLF) fun F v d q xs => mkL_ok F v d q xs
  exact h.2 E F2 H σ _ [] D DA ⟨rel_same R2 (slot_adr R.r hr) rp, mem_nil⟩ hk (l.to s)
end
end DS

namespace DS
open PySem PySem.Spec PyProof.Rows L2

section
variable {X : Cx} {W : L2.St → XK} {e b : Expr} {pos : Pos} {ta tb t : TE} {w : WE} {wr : WQ}
/-- x = [[]], both remembered -/
def wmNewLL (i : Nat) : WM := fun g D a => ∀ q p, gAt g q = none → gAt g p = none → p ≠ q → D.nx ((p, .lst [.adr q]) :: (q, .lst []) :: g) (a.set i (some ⟨.no, .adr p⟩))
theorem sm_newLL {i : Nat} {x : Str} {pos' p2 p3 : Pos} (hN : X.N.Nodup) (hi : X.N[i]? = some x) (hx : Loc X.env.scope x) (h1 : starEach [.List [] p3] X.env = (false, eval (.List [] p3) X.env) :: starEach [] X.env := by rfl) (hs : swapsWith (.List [.List [] p3] p2) (some (.Name x pos')) pos.line X.env = pure false := by rfl) (hf : X.fn x = true ∨ X.env.scope.names.lookup x = some .local := by first | exact .inl rfl | exact .inr rfl | assumption) :
    SM X W (.Assign [.Name x pos'] (.List [.List [] p3] p2) pos) (tAsg (tLst (tCons (tLst tNil) tNil)) (gName i)) (wmNewLL i) := by
  refine ⟨ps_set hN hi hx (pe_lst (pa_cons (pe_lst pa_nil) pa_nil h1)) hs hf, fun E F H σ a g D DA R hw l => ⟨by simp, fun q hq => ⟨small (by simp), fun p hp => ?_⟩⟩⟩
  have R1 := R.layM hq (Top.lst (K := X.K) (F := F) (vs := []) (ds := []) .nil)
  have R2 := R1.layM hp (Top.lst (K := X.K) (F := F) (.cons (.adr q) .nil))
  have hgp := gAt_free R1 hp
  have hpq : p ≠ q := fun z => by
    rw [z, gAt_same] at hgp
    cases hgp
  rw [gAt_ne (Ne.symm hpq)] at hgp
  exact l.nx _ F _ _ _ (Same.refl F) (R2.setDat (.adr p)) (hw q p (gAt_free R hq) hgp hpq)
/-- x.append([]): the list is remembered -/
def wmAppNL (i : Nat) : WM := fun g D a => onAdr a[i]? fun root => onLs (gAt g root) fun xs => xs.length < sizeLine ∧ ∀ q, gAt g q = none → D.nx ((root, .lst (xs ++ [.adr q])) :: (q, .lst []) :: g) a
theorem sm_appnl {i : Nat} {o : Expr} {lp apos cpos : Pos} (ho : PE X o (tVar i)) (hbase : attributeBase o "append" X.env (eval o X.env) = eval o X.env := by rfl)
    (hfew : ((backTo cpos (starEach [.List [] lp] X.env)).all (fun x => !x.1) && (backToKw cpos (keywordEach [] X.env)).all (fun x => x.1.isSome) && decide (([Expr.List [] lp] : List Expr).length + ([] : List Keyword).length + (if ([] : List Keyword).isEmpty then 0 else 1) < 30)) = true := by rfl)
    (hline : (apos.endLine == cpos.line) = true := by rfl) (hst : starEach [.List [] lp] X.env = (false, eval (.List [] lp) X.env) :: starEach [] X.env := by rfl) (hplain : (backTo cpos (starEach [] X.env)).any (·.1) = false := by rfl)
    (hs : swapsWith (.Call (.Attribute o "append" apos) [.List [] lp] [] cpos) none pos.line X.env = pure false := by rfl) :
    SM X W (.Expr (.Call (.Attribute o "append" apos) [.List [] lp] [] cpos) pos) (tDrop (tBM X.K "list" rAppend (tVar i) (tCons (tLst tNil) tNil))) (wmAppNL i) := by
  refine ⟨ps_expr (pe_bm PySem.F.plainAttrs_list PySem.F.slot_list_append PySem.F.type_list_append mt_append ho (pa_cons (pe_lst pa_nil) pa_nil hst) hbase hfew hline hst hplain) hs, fun E F H σ a g D DA R hw l => ?_⟩
  obtain ⟨root, hr, hw⟩ := onAdr_iff.mp hw
  obtain ⟨xs, hx, hz, hw⟩ := onLs_iff.mp hw
  obtain ⟨_, _, _, o0, ho0, t0⟩ := R.m root _ hx
  obtain ⟨vs, rfl, _⟩ := top_lst t0
  refine ⟨.ref root, slot_adr R.r hr, .inl ⟨rfl, vs, .of ho0⟩, by simp, fun q hq => ?_⟩
  have R1 := R.layM hq (Top.lst (K := X.K) (F := F) (vs := []) (ds := []) .nil)
  have hgq := gAt_free R hq
  have hy : gAt ((q, .lst []) :: g) root = some (.lst xs) := by
    rw [gAt_ne (fun z => by rw [z, hx] at hgq; cases hgq)]
    exact hx
  obtain ⟨_, _, _, o1, ho1, t1⟩ := R1.m root _ hy
  obtain ⟨us, rfl, r1⟩ := top_lst t1
  exact ⟨root, us, .ref q, rfl, rfl, ho1, by rw [r1.length]; exact hz, l.nx _ F _ _ _ (Same.refl F) (R1.writeM hy (.lst (r1.append (.cons (.adr q) .nil)))) (hw q hgq)⟩
/-- a, b, c = x[..][..] -/
def wmQAsg (wr : WQ) (wg : WG) : WM := fun g D a => wr g a fun d => wg d a fun a' => D.nx g a'
theorem sm_qasg {tg : Expr} {gg : TG} {wg : WG} {sl : List Nat} (h : SQ X e t wr) (hg : SG X tg gg wg sl) (hs : swapsWithSole [tg] e pos.line X.env = pure false := by rfl) (hw : swappedStores [tg] e X.env = pure none := by rfl)
    (h1 : (assignEach [tg] X.env).map (·.2) = [assign tg X.env] := by rfl) : SM X W (.Assign [tg] e pos) (tAsg t gg) (wmQAsg wr wg) := by
  refine ⟨ps_asg h.1 hg.1 hs hw h1, fun E F H σ a g D DA R hw l => h.2 E F H σ a g _ _ R hw fun v d rp hd => ?_⟩
  exact hg.2 (E.mem H g) F H σ a v d _ _ R.to rp hd fun σ' a3 _ R3 hq => l.nx _ F H a3 g (Same.refl F) (R.of (Same.refl F) R3) hq
/-- x[..][c] = e -/
def wmQSetIx (wr : WQ) (i : Int) (w : WE) : WM := fun g D a => w a (fun r a1 => fz r a1 fun d a2 => wr g a2 fun o => match o with
  | .adr q => onLs (gAt g q) fun xs => onO (ixN xs.length i) fun n => D.nx ((q, .lst (xs.set n d)) :: g) a2
  | _ => False) D.ex
theorem sm_qsetix {i : Int} {o : Expr} {p2 : Pos} (ho : SQ X o t wr) (hb : PE X b tb) (hi : ∀ σ H Q, Q (.int i) H → tb σ H Q) (h : SE X W e ta w) (hs : swapsWithSole [.Subscript o b p2] e pos.line X.env = pure false := by rfl) (hw : swappedStores [.Subscript o b p2] e X.env = pure none := by rfl)
    (h1 : (assignEach [.Subscript o b p2] X.env).map (·.2) = [assign (.Subscript o b p2) X.env] := by rfl)
    (hsub : ∀ v, assign (.Subscript o b p2) X.env v = (do let ov ← holding [v] (eval o X.env); let iv ← holding [v, ov] (eval b X.env); standAt p2; holding [v, ov, iv] (setItem ov iv v); release [v, ov, iv] []) := by intro _; rfl) :
    SM X W (.Assign [.Subscript o b p2] e pos) (tAsg ta (gSub t tb rSetL)) (wmQSetIx wr i w) := by
  refine ⟨ps_asg h.1 (pg_sub ho.1 hb set_list hsub) hs hw h1, fun E F H σ a g D DA R hw l => h.2 (E.mem H g) F H σ a _ _ _ R.to hw (fun v r F' H' a' e1 R' rp q => ?_) (lx_mem R (l.ex σ))⟩
  obtain ⟨F2, a2, d, s, R2, rp2, hq⟩ := fz_ok R' rp q
  have R2 := R.of (e1.trans s) R2
  refine ho.2 E F2 H' σ a2 g _ _ R2 hq fun vo od ro hd => hi σ H' _ ?_
  split at hd
  · rename_i q
    cases ro
    obtain ⟨xs, hx, hd⟩ := onLs_iff.mp hd
    obtain ⟨n, hn, hk⟩ := onO_iff.mp hd
    obtain ⟨_, _, _, o1, ho1, t1⟩ := R2.m q _ hx
    obtain ⟨us, rfl, r1⟩ := top_lst t1
    exact ⟨q, us, i, n, rfl, rfl, ho1, by rw [r1.length]; exact hn, l.nx _ F2 _ _ _ (e1.trans s) (R2.writeM hx (.lst (Reps.set rp2 n r1))) hk⟩
  · exact hd.elim
end
end DS

namespace DS
open PySem PySem.Spec PyProof.Rows L2
/-! ### dict comprehensions, keys of either kind -/
section
variable {X : Cx} {pins : List (Addr × Obj)} {σ : L2.St} {H : Hp} {s : Shared}
theorem d_dset {H' : Hp} {D : Addr} {y v : V} {u r : Value} {Er : Value → Shared → Prop} {Q : Unit → Shared → Prop} (hu : X.A.units < cLine) (I : Inv X pins σ H s) (g : DPut H D y v H')
    (ry : RelV y u) (rv : RelV v r) (h : ∀ s', Inv X pins σ H' s' → Q () s') : wpAny (model X.prog X.w) X.A (dictSet D u r) Q Er s := by
  rcases g with ⟨ks, k, e, ey, l, rfl⟩ | ⟨ks, k, b, e, ey, eb, l, rfl⟩
  · subst ey
    exact d_dictSet I e l ry rv h
  · subst ey
    cases (show u = Value.ref b from ry)
    obtain ⟨z, hd, xs, rel, dd⟩ := L2.dt_of I.hok e
    have hm : (putK ks k v).length ≤ sizeLine := by
      have := length_putK ks k v
      omega
    have hz : xs.length ≤ sizeLine := by
      rw [← Paired.length rel]
      exact z
    refine wpAny_dictSet_heap (hsz := hz) hu (key_of I.hok eb) dd ?_
    intro h' d2 hs
    obtain ⟨q, es, ep, q1, q2, q3, q4, _, q5⟩ := d2
    refine h _ (d_write I (by rw [e]; exact True.intro) hs ⟨q, q1⟩ ?_)
    refine ⟨hm, hd, _, (rel.put k eb rv).keeps ?_, q, es, ep, q1, q2, q3, q4, q5⟩
    intro c ys ec
    have hc : c ≠ D := fun w => by
      rw [w, e] at ec
      cases ec
    rw [upd_ne hc]
    exact ec
end
/-- the new dict's object -/
inductive DEmp : HO → D → Prop
  | k : DEmp (.dK []) (.dK [])
  | t : DEmp (.dT []) (.dT [])
def tDG (o0 : HO) (wi : TI) (g : TG) (tt : TT) (tk tv : TE) (vs : List Nat) : TE := fun σ H Q => wi σ H fun J H1 => ∀ D, H1 D = none →
  ∃ W : Nat → Nat → Hp → Prop, (∃ m, W 0 m (upd H1 D o0)) ∧
  ∀ i m H, W i m H → (J.stop i H ∧ Q (.ref D) H) ∨
    (J.go i H ∧ ∃ Nx : Hp → Prop, (∀ H', Nx H' → ∃ m', m' < m ∧ W (i + 1) m' H') ∧
      ∀ x H', J.yld i H x H' → g x (L2.wipe σ vs) H' fun σ2 H2 => L2.wipe σ2 vs = L2.wipe σ vs ∧ tt σ2 H2 fun b H3 =>
        if b = true then tk σ2 H3 fun y H4 => tv σ2 H4 fun z H5 => ∃ H6, DPut H5 D y z H6 ∧ Nx H6 else Nx H3)
abbrev InBlk (X : Cx) (sc : Scope) (f : Cx → Prop) : Prop := ∀ (s : Shared) (H : Hp) (C : Addr) (cl : List (Str × Addr)) (fp : List Addr), f (X.blk s H sc (compEnvC sc cl C X.env) fp)
section
variable {X : Cx}
theorem dg_core {o0 : HO} {d0 : D} (h0 : DEmp o0 d0) {pins : List (Addr × Obj)} {s : Shared} {σ : L2.St} {H : Hp} {Q : VK} {kx vx tg iter : Expr} {ifs : List Expr} {sc : Scope} {own : List (Str × Nat)} {pos pos' : Pos} {wi : TI} {g : TG} {tt : TT} {tk tv : TE}
    {use : Option (Value → Sem Unit)} {Qf : Value → Shared → Prop} (hu : X.A.units < cLine) (hc : X.calm = true) (hN : X.N.Nodup) (I : Inv X pins σ H s) (hi : PI X tg iter wi) (ok : BlkOk X.N X.env.scope sc own)
    (hg : InBlk X sc fun Y => PG Y tg g) (ht : InBlk X sc fun Y => PTs Y ifs tt) (hk : InBlk X sc fun Y => PE Y kx tk) (he : InBlk X sc fun Y => PE Y vx tv)
    (hs : ∀ x, foldedSetIterable iter X.env x = pure x) (h : tDG o0 wi g tt tk tv (own.map (·.2)) σ H Q)
    (fin : ∀ D C s' m H', Inv X pins σ H' s' → Q (.ref D) H' → s'.heap.Ns C m → FpOk X pins H' C → compPost (model X.prog X.w) X.A X.xe use Qf (.ref D) C (.ok .next) s') :
    wpAny (model X.prog X.w) X.A (comprehension (.DictComp kx vx [⟨tg, iter, ifs, 0⟩] sc pos) sc X.env pos' newDict false (eval iter X.env) use) Qf X.xe s := by
  have cap : ∀ y ∈ sc.names, y.2 = .free → ∃ c, X.env.cells.lookup y.1 = some c := by
    intro y hy e
    exact I.ok.has _ ((ok.free y hy e).elim .inl .inr)
  refine wpAny_comprehension_free (use := use) rfl hs (closure_ok cap) ok.kind (fun y hy e => by rw [ok.uniq y hy, e]) (thn (hi.run pins s σ H _ I h) ?_)
  intro xv s1 hx
  refine thn hx ?_
  rintro itv s2 ⟨it, fp, tn, J, H2, rfl, I2, T, st2, f2, q⟩
  refine wpAny_newObj_type (newEnv_comp ?_)
  generalize hD : s2.heap.objs.size = Dd
  have new : H2 Dd = none := I2.hok.fresh (Nat.le_of_eq hD)
  obtain ⟨W, ⟨m0, w0⟩, turn⟩ := q Dd new
  generalize e3 : ({ s2 with heap := s2.heap.push { cls := .type "dict", data := .dict #[] } } : Shared) = s3
  have up3 : ∀ {b o}, s2.heap.get? b = some o → s3.heap.get? b = some o := fun e => by
    rw [← e3]
    exact Heap.get?_push_of_some _ e
  have n3 : s3.heap.objs.size = s2.heap.objs.size + 1 := by
    rw [← e3]
    exact Heap.size_push ..
  have I3 : Inv X pins σ (upd H2 Dd o0) s3 := by
    rw [← e3]
    refine I2.laid (t' := s2.toks) (fun b o e => Heap.get?_push_of_some _ e) (Nat.le_of_eq hD) ?_
    rw [← hD]
    cases h0 with
    | k => exact dk_empty s2.heap I2.big
    | t => exact dt_empty s2.heap I2.big
  have small : ∀ b ∈ fp, b < s2.heap.objs.size := by
    intro b hb
    obtain ⟨o, e, _⟩ := T.obj _ _ st2 b hb
    exact Heap.lt_size e
  have f3 : ∀ b ∈ fp, FpOk X pins (upd H2 Dd o0) b ∧ b < s3.heap.objs.size := by
    intro b hb
    have lt := small b hb
    have ne : b ≠ Dd := by
      rw [← hD]
      exact Nat.ne_of_lt lt
    refine ⟨⟨?_, (f2 b hb).2⟩, by rw [n3]; exact Nat.lt_succ_of_lt lt⟩
    rw [upd_ne ne]
    exact (f2 b hb).1
  have st3 : tn 0 s3.heap := T.keep _ _ _ st2 fun b _ o e => up3 e
  have I4 := block_start I3 ok hN f3
  have pg := hg s3 (upd H2 Dd o0) s3.heap.objs.size (cellsFrom (s3.heap.objs.size + 1) sc.names (cloFrom X.env.cells sc.names [])) fp
  have pt := ht s3 (upd H2 Dd o0) s3.heap.objs.size (cellsFrom (s3.heap.objs.size + 1) sc.names (cloFrom X.env.cells sc.names [])) fp
  have pk := hk s3 (upd H2 Dd o0) s3.heap.objs.size (cellsFrom (s3.heap.objs.size + 1) sc.names (cloFrom X.env.cells sc.names [])) fp
  have pe := he s3 (upd H2 Dd o0) s3.heap.objs.size (cellsFrom (s3.heap.objs.size + 1) sc.names (cloFrom X.env.cells sc.names [])) fp
  have h3 : s3.heap = s2.heap.push { cls := .type "dict", data := .dict #[] } := by rw [← e3]
  have goal : codeAny (model X.prog X.w) X.A (.compStart (.DictComp kx vx [⟨tg, iter, ifs, 0⟩] sc pos) 0 (.ref it) (.ref Dd)
      (compEnvC sc (cellsFrom (s3.heap.objs.size + 1) sc.names (cloFrom X.env.cells sc.names [])) s3.heap.objs.size X.env))
      (compPost (model X.prog X.w) X.A X.xe use Qf (.ref Dd) s3.heap.objs.size) { s3 with heap := pushCells (s3.heap.push { cls := .type "dict", data := .dict #[] }) sc.names } := by
    have none3 : ∀ b ∈ fp, (upd H2 Dd o0) b = none := fun b hb => (f3 b hb).1.1
    generalize eC : compEnvC sc (cellsFrom (s3.heap.objs.size + 1) sc.names (cloFrom X.env.cells sc.names [])) s3.heap.objs.size X.env = ce at I4 pg pt pk pe ⊢
    have cL : ce.locals = s3.heap.objs.size := by
      rw [← eC]
      rfl
    generalize eH : upd H2 Dd o0 = H3 at I3 I4 pg pt pk pe w0 none3 f3
    generalize e4 : ({ s3 with heap := pushCells (s3.heap.push { cls := .type "dict", data := .dict #[] }) sc.names } : Shared) = s4 at I4 ⊢
    have st4 : tn 0 s4.heap := T.keep _ _ _ st3 fun b _ o e => by
      rw [← e4]
      exact pushCells_keeps _ _ _ _ (Heap.get?_push_of_some _ e)
    have foot : ∀ {σ' : L2.St} {H' : Hp} {s' : Shared}, Inv (X.blk s3 H3 sc ce fp) [] σ' H' s' → (∀ b ∈ fp, H' b = none) → ∀ b ∈ fp, FpOk (X.blk s3 H3 sc ce fp) [] H' b := by
      intro σ' H' s' J n b hb
      have x1 := J.ok.exf b hb
      exact ⟨n b hb, x1.1, J.ok.exfs b hb, .inl hb, fun x c e => x1.2 x c e, fun p hp => by cases hp⟩
    have loop : codeAny (model X.prog X.w) X.A (.compLoop (.DictComp kx vx [⟨tg, iter, ifs, 0⟩] sc pos) 0 (.ref it) (.ref Dd) ce) (compPost (model X.prog X.w) X.A X.xe use Qf (.ref Dd) s3.heap.objs.size) s4 := by
      refine compLoop_anyD (fun n t => ∃ i K, Inv (X.blk s3 H3 sc ce fp) [] (L2.wipe σ (own.map (·.2))) K t ∧ tn i t.heap ∧ (∀ b ∈ fp, K b = none) ∧ W i n K) ?_ m0 ⟨0, H3, I4, st4, none3, w0⟩
      rintro n s5 ⟨i, H5, I5, st5, n5, w5⟩
      rcases turn i n H5 w5 with ⟨stop, last⟩ | ⟨go, Nx, hNx, step⟩
      · refine thnF (T.done (X.blk s3 H3 sc ce fp) rfl rfl rfl hc i [] s5 _ H5 (fun _ _ => False) I5 (foot I5 n5) st5 stop) ?_
        rintro r s6 ⟨rfl, I6⟩
        have I7 : Inv X pins σ H5 s6 := by
          refine I3.call' (ch := fp) I6.os I6.base I6.hok I6.bare fun b hb => ?_
          have z := (f3 b hb).1
          exact ⟨z.2.2.2.1, z.2.1, z.2.2.2.2.1, z.2.2.2.2.2⟩
        have nC : H5 s3.heap.objs.size = none := by
          rw [← cL]
          exact I6.free
        obtain ⟨m, hn, _⟩ := I6.loc
        refine fin Dd s3.heap.objs.size s6 m H5 I7 last ?_ (I3.fpOk (Nat.le_refl _) nC)
        rw [← cL]
        exact hn
      · refine thnF (T.item (X.blk s3 H3 sc ce fp) rfl rfl rfl hc i [] s5 _ H5 (fun _ _ => False) I5 (foot I5 n5) st5 go) ?_
        rintro r s6 ⟨u, rfl, h6⟩
        refine thnF h6 ?_
        rintro _ s7 ⟨x, H7, I7, r7, y7, st7, n7⟩
        refine thnF (pg.run _ s7 _ H7 x u _ (I7.pinned (foot I7 n7) (T.obj _ _ st7)) r7 (step x H7 y7)) ?_
        rintro _ s8 ⟨σ8, H8, I8, w8, q8⟩
        refine thnF (pt.run _ s8 σ8 H8 _ I8 q8) ?_
        rintro b s9 ⟨H9, I9, q9⟩
        have over : ∀ {s' : Shared} {H' : Hp}, Inv (X.blk s3 H3 sc ce fp) ([] ++ pinsAt fp s7.heap) σ8 H' s' → Nx H' →
            ∃ m, m < n ∧ ∃ i H', Inv (X.blk s3 H3 sc ce fp) [] (L2.wipe σ (own.map (·.2))) H' s' ∧ tn i s'.heap ∧ (∀ b ∈ fp, H' b = none) ∧ W i m H' := by
          intro s' H' J nx
          obtain ⟨m', lt, w'⟩ := hNx H' nx
          have stay : ∀ b ∈ fp, ∀ o, s7.heap.get? b = some o → s'.heap.get? b = some o ∧ H' b = none := by
            intro b hb o e
            have z := J.pin (b, o) (List.mem_append_right _ (List.mem_append_right _ (mem_pinsAt hb e)))
            exact ⟨z.1, z.2.1⟩
          have len : (L2.wipe σ (own.map (·.2))).length = σ8.length := by rw [← w8, L2.wipe_length]
          refine ⟨m', lt, i + 1, H', (J.unpinned (pins := [])).weak len ?_, T.keep _ _ _ st7 fun b hb o e => (stay b hb o e).1, ?_, w'⟩
          · intro j v e
            rw [← w8] at e
            exact (L2.wipe_some e).1
          · intro b hb
            obtain ⟨o, e, _⟩ := T.obj _ _ st7 b hb
            exact (stay b hb o e).2
        cases b with
        | false => exact over I9 q9
        | true =>
          refine thnF (pk.run _ s9 σ8 H9 _ I9 q9) ?_
          rintro z s10 ⟨yk, H10, I10, r10, q10⟩
          refine thnF (pe.run _ s10 σ8 H10 _ I10 q10) ?_
          rintro z2 s11 ⟨yv, H11, I11, r11, H12, put, nx⟩
          exact d_dset (X := X.blk s3 H3 sc ce fp) hu I11 put r10 r11 fun s12 I12 => over I12 nx
    exact codeAny_compStart_dict loop (T.self X.A 0 _ _ _ st4 loop)
  rw [h3] at goal
  rw [← hD, ← e3]
  rw [← hD, ← e3] at goal
  exact goal
theorem pe_dg {o0 : HO} {d0 : D} (h0 : DEmp o0 d0) {kx vx tg iter : Expr} {ifs : List Expr} {sc : Scope} {own : List (Str × Nat)} {pos : Pos} {wi : TI} {g : TG} {tt : TT} {tk tv : TE} (hu : X.A.units < cLine) (hc : X.calm = true) (hN : X.N.Nodup)
    (hi : PI X tg iter wi) (ok : BlkOk X.N X.env.scope sc own) (hg : InBlk X sc fun Y => PG Y tg g) (ht : InBlk X sc fun Y => PTs Y ifs tt) (hk : InBlk X sc fun Y => PE Y kx tk) (he : InBlk X sc fun Y => PE Y vx tv)
    (hs : ∀ x, foldedSetIterable iter X.env x = pure x) : PE X (.DictComp kx vx [⟨tg, iter, ifs, 0⟩] sc pos) (tDG o0 wi g tt tk tv (own.map (·.2))) := by
  constructor
  intro pins s σ H Q I h
  rw [arm_eval_DictComp]
  refine dg_core h0 hu hc hN I hi ok hg ht hk he hs h ?_
  rintro D C s' m H' J q hn ⟨z0, z1, z2, z3, z4, z5⟩
  refine ⟨m, hn, fun h'' sb => ⟨.ref D, H', ?_, rfl, q⟩⟩
  exact J.turned (t' := s'.toks) (fun b o hb e => (sb.2 b hb).trans e) z0 z1 z3 z4 z5
theorem ps_setDg {o0 : HO} {d0 : D} (h0 : DEmp o0 d0) {i : Nat} {y : Str} {py : Pos} {kx vx tg iter : Expr} {ifs : List Expr} {sc : Scope} {own : List (Str × Nat)} {pos spos : Pos} {wi : TI} {g : TG} {tt : TT} {tk tv : TE} (hu : X.A.units < cLine) (hc : X.calm = true) (hN : X.N.Nodup)
    (hy : X.N[i]? = some y) (hyl : X.env.scope.names.lookup y = some .local) (hsw : swapsWith (.DictComp kx vx [⟨tg, iter, ifs, 0⟩] sc pos) (some (.Name y py)) spos.line X.env = pure true)
    (hi : PI X tg iter wi) (ok : BlkOk X.N X.env.scope sc own) (hg : InBlk X sc fun Y => PG Y tg g) (ht : InBlk X sc fun Y => PTs Y ifs tt) (hk : InBlk X sc fun Y => PE Y kx tk) (he : InBlk X sc fun Y => PE Y vx tv)
    (hs : ∀ x, foldedSetIterable iter X.env x = pure x) : PS X (.Assign [.Name y py] (.DictComp kx vx [⟨tg, iter, ifs, 0⟩] sc pos) spos) (tAsg (tDG o0 wi g tt tk tv (own.map (·.2))) (gName i)) := by
  constructor
  intro pins s σ H Dn I h
  rw [exec_Assign_Name_used _ _ _ _ hsw]
  refine wpAny_bind (wpAny_standAt (wpAny_bind ?_))
  show wpAny _ X.A (do let _ ← comprehension (.DictComp kx vx [⟨tg, iter, ifs, 0⟩] sc pos) sc X.env (firstIterPos [⟨tg, iter, ifs, 0⟩] pos) newDict false (eval iter X.env) (some (assign (.Name y py) X.env))) _ _ s
  have h : tDG o0 wi g tt tk tv (own.map (·.2)) σ H (fun x H1 => gName i x σ H1 Dn.nx) := h
  refine wpAny_bind (thn (dg_core (Qf := fun _ s' => SP X pins Dn .next s') h0 hu hc hN I hi ok hg ht hk he hs h ?_) fun _ s' hq => wpAny_pure (wpAny_pure hq))
  rintro L C s' m H' J q hn ⟨z0, z1, z2, z3, z4, z5⟩
  show wpAny _ _ (assign (.Name y py) X.env (.ref L)) _ _ _
  refine wpAny_assign_Name (store_ok2 (v := V.ref L) J hN hy (.inl hyl) rfl ?_ (.inr hyl))
  rintro s2 I2 ⟨a, sb, ha⟩
  have hCa : C ≠ a := by
    rcases ha with z | z
    · exact z ▸ z1
    · exact fun e => z4 y a z e.symm
  refine ⟨m, hn.sameBut sb hCa, fun h3 sb3 => ⟨_, H', ?_, q⟩⟩
  exact I2.turned (t' := s2.toks) (fun b o hb e => (sb3.2 b hb).trans e) z0 z1 z3 z4 z5
end
/-! the word -/
section
variable {K : PySem.W.Frag} {E : En} {F H : Hp} {σ : L2.St} {a : PSt}
/-- the object on the side is changed -/
theorem Rel.sideSet {Dd : Addr} {o o' : HO} (R : Rel K (E.side Dd o) F H σ a) (hE : E.H Dd = none) (hL : ¬ E.L Dd) (hF0 : E.F Dd = none) (ho : ∀ xs, o ≠ .tup xs) : Rel K (E.side Dd o') F (upd H Dd o') σ a := by
  obtain ⟨R9, g1, g2, g3⟩ := R.ofSide hE hL hF0 ho
  have far : ∀ {j : Nat} {av : AV} {p : Addr}, a[j]? = some (some av) → av.o ≠ .no → σ[j]? = some (some (.ref p)) → p ≠ Dd := by
    intro j av p h1 h2 h3 z
    exact g2 ⟨j, av, h1, h2, z ▸ h3⟩
  have R10 : Rel K E F (upd H Dd o') σ a := by
    refine ⟨fun b u e => ?_, R9.f0, R9.new, fun b u e l' => ?_, fun b e => ?_, R9.lt, R9.len, fun j av e => ?_, R9.dis⟩
    · rw [upd_ne (ne_of_none e g1)]
      exact R9.ext _ _ e
    · rw [upd_ne (ne_of_none e hE)]
      exact R9.keep _ _ e l'
    · by_cases hb : b = Dd
      · exact hb ▸ hE
      · rw [upd_ne hb] at e
        exact R9.dom _ e
    · obtain ⟨u, e1, q⟩ := R9.sl j av e
      refine ⟨u, e1, ?_⟩
      obtain ⟨ow, cc⟩ := av
      cases ow with
      | no => exact q
      | own =>
        obtain ⟨p, rfl, h1, h2, t, h3, h4⟩ := q
        refine ⟨p, rfl, h1, h2, t, ?_, h4⟩
        rw [upd_ne (far e (by simp) e1)]
        exact h3
      | lent =>
        obtain ⟨p, rfl, h1, h2, h5, t, h3, h4⟩ := q
        refine ⟨p, rfl, h1, h2, h5, t, ?_, h4⟩
        rw [upd_ne (far e (by simp) e1)]
        exact h3
  exact R10.toSide g1 hE g2 upd_same
end
theorem top_nt {K : PySem.W.Frag} {F : Hp} {o : HO} {d : D} (h : Top K F o d) : ∀ xs, o ≠ .tup xs := by
  intro xs e
  subst e
  cases h
/-- {k: e for x in xs if t}: Inv by the turn, the dict so far, the state -/
@[irreducible] def dcS (d0 : D) (items : List D) (vs : List Nat) (wg : WG) (wt : WT) (wk we : WE) (a1 : PSt) (q : Res → PSt → Prop) : Prop := ∃ Inv : Nat → D → PSt → Prop, Inv 0 d0 a1 ∧
  (∀ i acc a2 d, items[i]? = some d → Inv i acc a2 → wg d (wipeA a2 vs) fun a3 => wt a3 (fun b a4 => br b
    (wk a4 (fun rk a5 => fz rk a5 fun y a6 => we a6 (fun r a7 => fz r a7 fun z a8 => putS acc y z fun acc' => Inv (i + 1) acc' (wipeA a8 vs)) (fun _ _ => False)) (fun _ _ => False)) (Inv (i + 1) acc (wipeA a4 vs))) (fun _ _ => False)) ∧
  ∀ acc a2, Inv items.length acc a2 → q (.new acc) (keepNo a1 vs a2)
theorem dc_i {d0 : D} {items : List D} {vs : List Nat} {wg : WG} {wt : WT} {wk we : WE} {a1 : PSt} {q : Res → PSt → Prop} (Inv : Nat → D → PSt → Prop) (h0 : Inv 0 d0 a1)
    (hs : ∀ i acc a2 d, items[i]? = some d → Inv i acc a2 → wg d (wipeA a2 vs) fun a3 => wt a3 (fun b a4 => br b
    (wk a4 (fun rk a5 => fz rk a5 fun y a6 => we a6 (fun r a7 => fz r a7 fun z a8 => putS acc y z fun acc' => Inv (i + 1) acc' (wipeA a8 vs)) (fun _ _ => False)) (fun _ _ => False)) (Inv (i + 1) acc (wipeA a4 vs))) (fun _ _ => False))
    (he : ∀ acc a2, Inv items.length acc a2 → q (.new acc) (keepNo a1 vs a2)) : dcS d0 items vs wg wt wk we a1 q := by
  unfold dcS
  exact ⟨Inv, h0, hs, he⟩
def wDc (d0 : D) (wi : WI) (vs : List Nat) (wg : WG) (wt : WT) (wk we : WE) : WE := fun a q qe => wi a (fun items a1 => dcS d0 items vs wg wt wk we a1 q) qe
/-- what keepNo owns was owned -/
theorem keepNo_own {a1 a2 : PSt} : ∀ (ws : List Nat) (j : Nat) (av : AV), (keepNo a1 ws a2)[j]? = some (some av) → av.o ≠ .no → a2[j]? = some (some av) := by
  intro ws
  induction ws with
  | nil => exact fun j av h _ => h
  | cons v ws ih =>
    intro j av h ho
    unfold keepNo at h
    by_cases hv : v = j
    · subst hv
      have hl := (List.getElem?_eq_some_iff.mp h).1
      rw [List.length_set] at hl
      rw [List.getElem?_set_self hl] at h
      split at h
      · cases h; exact absurd rfl ho
      · cases h
    · rw [List.getElem?_set_ne hv] at h
      exact ih j av h ho
theorem dput_of {K : PySem.W.Frag} {F H : Hp} {Dd : Addr} {o : HO} {acc y z : D} {vy vz : V} {k : D → Prop} (e : Same F H) (hD : H Dd = some o) (t : Top K F o acc) (ry : Rep K F vy y) (rz : Rep K F vz z) (h : putS acc y z k) :
    ∃ o' acc', DPut H Dd vy vz (upd H Dd o') ∧ Top K F o' acc' ∧ k acc' := by
  unfold putS at h
  split at h
  · obtain ⟨key, hk, hz, hn⟩ := onO_iff.mp h
    cases t with
    | dK r =>
      obtain rfl := key_rep ry hk
      exact ⟨_, _, DPut.k hD (by rw [r.len]; exact hz), .dK (r.put rz), hn⟩
  · obtain ⟨key, hk, hz, hn⟩ := onO_iff.mp h
    cases t with
    | dT r =>
      obtain ⟨q, rfl, hb⟩ := tup_rd e (.inl ry) hk
      exact ⟨_, _, DPut.t hD hb (by rw [r.len]; exact hz), .dT (r.put rz), hn⟩
  · exact h.elim
theorem dc_ok {K : PySem.W.Frag} {W : L2.St → XK} {o0 : HO} {d0 : D} (hd0 : DEmp o0 d0) {ti : TI} {wi : WI} {g : TG} {wg : WG} {tt : TT} {wt : WT} {tk te : TE} {wk we : WE} {vs sl : List Nat}
    (hi : ∀ E F H σ a R q qe, Rel K E F H σ a → wi a q qe → Li K E F σ q R → Lx K E F σ qe (W σ) → ti σ H R)
    (hg : ∀ E F H σ a v d Q q, Rel K E F H σ a → Rep K F v d → wg d a q → (∀ σ' a', Only sl σ σ' → Rel K E F H σ' a' → q a' → Q σ' H) → g v σ H Q) (hsl : ∀ j ∈ sl, j ∈ vs)
    (ht : ∀ E F H σ a Q q qe, Rel K E F H σ a → wt a q qe → Lt K E F σ q Q → Lx K E F σ qe (W0 σ) → tt σ H Q)
    (hk : ∀ E F H σ a Q q qe, Rel K E F H σ a → wk a q qe → Ln K E F σ q Q → Lx K E F σ qe (W0 σ) → tk σ H Q)
    (he : ∀ E F H σ a Q q qe, Rel K E F H σ a → we a q qe → Ln K E F σ q Q → Lx K E F σ qe (W0 σ) → te σ H Q) :
    ∀ E F H σ a Q q qe, Rel K E F H σ a → wDc d0 wi vs wg wt wk we a q qe → Ln K E F σ q Q → Lx K E F σ qe (W σ) → tDG o0 ti g tt tk te vs σ H Q := by
  intro E F H σ a Q q qe R hw l lx
  refine hi E F H σ a _ _ _ R hw (fun J items F1 H1 a1 e1 R1 it hq => ?_) lx
  unfold dcS at hq
  obtain ⟨Inv, h0, hst, hend⟩ := hq
  intro Dd hD
  obtain ⟨f1, f2, f3⟩ := R1.fresh hD
  have hL : ¬ E.L Dd := fun z => R1.lt Dd z f2
  have hF0 : E.F Dd = none := R1.f0.free f1
  have t0 : Top K F1 o0 d0 := by
    cases hd0 with
    | k => exact .dK .nil
    | t => exact .dT .nil
  refine ⟨fun i m H' => m = items.length - i ∧ i ≤ items.length ∧ ∃ F2 a2 o acc, Same F1 F2 ∧ Rel K (E.side Dd o) F2 H' σ a2 ∧ Top K F2 o acc ∧ Inv i acc a2,
    ⟨_, rfl, Nat.zero_le _, F1, a1, o0, d0, Same.refl F1, (R1.lay o0 hD).toSide f1 f2 f3 upd_same, t0, h0⟩, ?_⟩
  rintro i m H' ⟨rfl, hi', F2, a2, o, acc, s2, R2, top, hinv⟩
  by_cases hlt : i < items.length
  · refine .inr ⟨it.go i _ σ a2 F2 H' s2 R2 hlt, fun H3 => ∃ F3 a3 o acc, Same F1 F3 ∧ Rel K (E.side Dd o) F3 H3 σ a3 ∧ Top K F3 o acc ∧ Inv (i + 1) acc a3,
      fun H3 ⟨F3, a3, o, ac, s3, R3, r3, h3⟩ => ⟨items.length - (i + 1), by omega, rfl, hlt, F3, a3, o, ac, s3, R3, r3, h3⟩, fun x H3 y => ?_⟩
    obtain ⟨F3, d, s3, R3, hd, rp⟩ := it.yld i _ σ a2 F2 H' x H3 s2 R2 hlt y
    refine hg _ F3 H3 (L2.wipe σ vs) (wipeA a2 vs) x d _ _ (R3.wipe vs) rp (hst i acc a2 d hd hinv) fun σ4 a4 o4 R4 hq4 => ⟨wipe_only o4 hsl, ?_⟩
    have back : ∀ {F5 H5 : Hp} {a5 : PSt} {EE : En}, Rel K EE F5 H5 σ4 a5 → Rel K EE F5 H5 σ (wipeA a5 vs) := fun {F5 H5 a5 EE} R5 => by
      refine R5.less (by rw [wipeA_length, R5.len, o4.1, L2.wipe_length]) fun j av e => ?_
      obtain ⟨h1, h2⟩ := wipeA_some e
      refine ⟨h1, ?_⟩
      rw [o4.2 j fun z => h2 (hsl j z), L2.wipe_out h2]
    refine ht _ F3 H3 σ4 a4 _ _ _ R4 hq4 (fun b F5 H5 a5 e5 R5 q5 => ?_) (fun x a c dx F5 H5 _ _ _ z => z)
    cases b with
    | false =>
      rw [if_neg Bool.false_ne_true]
      exact ⟨F5, _, o, acc, (s2.trans s3).trans e5, back R5, (top.mono s3).mono e5, br_ff q5 rfl⟩
    | true =>
      rw [if_pos rfl]
      refine hk _ F5 H5 σ4 a5 _ _ _ R5 (br_tt q5 rfl) (fun vy rk F6 H6 a6 e6 R6 rp6 q6 => ?_) (fun x a c dx F5 H5 _ _ _ z => z)
      obtain ⟨F7, a7, yd, s7, R7, rp7, q7⟩ := fz_ok R6 rp6 q6
      refine he _ F7 H6 σ4 a7 _ _ _ R7 q7 (fun vz r F8 H8 a8 e8 R8 rp8 q8 => ?_) (fun x a c dx F5 H5 _ _ _ z => z)
      obtain ⟨F9, a9, zd, s9, R9, rp9, q9⟩ := fz_ok R8 rp8 q8
      have R10 := back R9
      have sAll : Same F3 F9 := (((e5.trans e6).trans s7).trans e8).trans s9
      obtain ⟨_, _, _, g3⟩ := R10.ofSide f2 hL hF0 (top_nt top)
      obtain ⟨o', acc', put, t', hinv'⟩ := dput_of R10.ext g3 ((top.mono s3).mono sAll) (rp7.mono (e8.trans s9)) rp9 q9
      exact ⟨_, put, F9, _, o', acc', (s2.trans s3).trans sAll, R10.sideSet f2 hL hF0 (top_nt top), t', hinv'⟩
  · have e : i = items.length := by omega
    subst e
    obtain ⟨R3, g1, g2, g3⟩ := R2.ofSide f2 hL hF0 (top_nt top)
    refine .inl ⟨it.stop _ σ a2 F2 H' s2 R2, ?_⟩
    have R4 := Rel.keepNo R1 s2 R3 vs
    refine l (.ref Dd) (.new acc) F2 H' _ (e1.trans s2) R4 ⟨Dd, rfl, g1, f2, ⟨_, g3, top⟩, ?_⟩ (hend acc a2 hinv)
    rintro ⟨j, av, h1, h2, h3⟩
    exact g2 ⟨j, av, keepNo_own vs j av h1 h2, h2, h3⟩
section
variable {X : Cx} {W : L2.St → XK} {o0 : HO} {d0 : D}
theorem se_dc (h0 : DEmp o0 d0) {kx vx tg iter : Expr} {ifs : List Expr} {sc : Scope} {own : List (Str × Nat)} {pos : Pos} {ti : TI} {wi : WI} {wg : WG} {wt : WT} {wk we : WE} {sl : List Nat} (hu : X.A.units < cLine) (hc : X.calm = true) (hN : X.N.Nodup) (hi : SI X W tg iter ti wi) (ok : BlkOk X.N X.env.scope sc own)
    (hg : InBlk X sc fun Y => ∃ g, SG Y tg g wg sl) (hsl : ∀ j ∈ sl, j ∈ own.map (·.2)) (ht : InBlk X sc fun Y => ∃ t, STs Y W0 ifs t wt) (hk : InBlk X sc fun Y => ∃ t, SE Y W0 kx t wk) (he : InBlk X sc fun Y => ∃ t, SE Y W0 vx t we)
    (hs : ∀ x, foldedSetIterable iter X.env x = pure x := by intro _; rfl) :
    SE X W (.DictComp kx vx [⟨tg, iter, ifs, 0⟩] sc pos) (tDG o0 ti (gG X.K wg sl) (tT X.K W0 wt) (tE X.K W0 wk) (tE X.K W0 we) (own.map (·.2))) (wDc d0 wi (own.map (·.2)) wg wt wk we) :=
  ⟨pe_dg h0 hu hc hN hi.1 ok (fun s H C cl fp => (hg s H C cl fp).elim fun _ h => h.own) (fun s H C cl fp => (ht s H C cl fp).elim fun _ h => h.own) (fun s H C cl fp => (hk s H C cl fp).elim fun _ h => h.own) (fun s H C cl fp => (he s H C cl fp).elim fun _ h => h.own) hs,
    dc_ok h0 hi.2 (fun E F H σ a v d Q q R rp hw l => ⟨E, F, a, d, q, R, rp, hw, l⟩) hsl (fun E F H σ a Q q qe R hw l lx => ⟨E, F, a, q, qe, R, hw, l, lx⟩) (fun E F H σ a Q q qe R hw l lx => ⟨E, F, a, q, qe, R, hw, l, lx⟩) (fun E F H σ a Q q qe R hw l lx => ⟨E, F, a, q, qe, R, hw, l, lx⟩)⟩
theorem ss_setDc (h0 : DEmp o0 d0) {i : Nat} {y : Str} {py : Pos} {kx vx tg iter : Expr} {ifs : List Expr} {sc : Scope} {own : List (Str × Nat)} {pos spos : Pos} {ti : TI} {wi : WI} {wg : WG} {wt : WT} {wk we : WE} {sl : List Nat} (hu : X.A.units < cLine) (hc : X.calm = true) (hN : X.N.Nodup)
    (hy : X.N[i]? = some y) (hyl : X.env.scope.names.lookup y = some .local) (hsw : swapsWith (.DictComp kx vx [⟨tg, iter, ifs, 0⟩] sc pos) (some (.Name y py)) spos.line X.env = pure true) (hi : SI X W tg iter ti wi) (ok : BlkOk X.N X.env.scope sc own)
    (hg : InBlk X sc fun Y => ∃ g, SG Y tg g wg sl) (hsl : ∀ j ∈ sl, j ∈ own.map (·.2)) (ht : InBlk X sc fun Y => ∃ t, STs Y W0 ifs t wt) (hk : InBlk X sc fun Y => ∃ t, SE Y W0 kx t wk) (he : InBlk X sc fun Y => ∃ t, SE Y W0 vx t we)
    (hs : ∀ x, foldedSetIterable iter X.env x = pure x := by intro _; rfl) :
    SS X W (.Assign [.Name y py] (.DictComp kx vx [⟨tg, iter, ifs, 0⟩] sc pos) spos) (tAsg (tDG o0 ti (gG X.K wg sl) (tT X.K W0 wt) (tE X.K W0 wk) (tE X.K W0 we) (own.map (·.2))) (gName i)) (wSet i (wDc d0 wi (own.map (·.2)) wg wt wk we)) := by
  refine ⟨ps_setDg h0 hu hc hN hy hyl hsw hi.1 ok (fun s H C cl fp => (hg s H C cl fp).elim fun _ h => h.own) (fun s H C cl fp => (ht s H C cl fp).elim fun _ h => h.own) (fun s H C cl fp => (hk s H C cl fp).elim fun _ h => h.own) (fun s H C cl fp => (he s H C cl fp).elim fun _ h => h.own) hs, fun E F H σ a D DA R hw l => ?_⟩
  refine dc_ok (W := W) h0 hi.2 (fun E F H σ a v d Q q R rp hw l => ⟨E, F, a, d, q, R, rp, hw, l⟩) hsl (fun E F H σ a Q q qe R hw l lx => ⟨E, F, a, q, qe, R, hw, l, lx⟩) (fun E F H σ a Q q qe R hw l lx => ⟨E, F, a, q, qe, R, hw, l, lx⟩) (fun E F H σ a Q q qe R hw l lx => ⟨E, F, a, q, qe, R, hw, l, lx⟩) E F H σ a _ _ _ R hw (fun v r F' H' a' e R' rp q => ?_) (l.ex σ)
  obtain ⟨F2, a2, s, R2, hk⟩ := sto_ok R' rp q
  exact l.nx _ F2 H' a2 (e.trans s) R2 hk
/-- from here on what slot i owns is data -/
def wFzS (i : Nat) (w : WS) : WS := fun D a => fz (.slot i) a fun _ a' => w D a'
theorem sss_fz (i : Nat) {st : List Stmt} {t : TS} {w : WS} (h : SSs X W st t w) : SSs X W st t (wFzS i w) := by
  refine ⟨h.1, fun E F H σ a D DA R hw l => ?_⟩
  have hw : fz (.slot i) a fun _ a' => w DA a' := hw
  simp only [fz] at hw
  split at hw
  · exact h.2 E F H σ _ D DA R hw l
  · rename_i c e
    obtain ⟨F2, s, R2, _⟩ := R.giveUp e
    exact h.2 E F2 H σ _ D DA R2 hw (l.to s)
  · exact hw.elim
theorem sw_trueD {kx vx : Expr} {gs : List Comprehension} {sc : Scope} {pos py : Pos} {y : Str} {l : Nat} {env : Env} (hk : env.scope.kind = .function) (hy : env.scope.names.lookup y = some .local) (hl : (py.line == pos.line) = true)
    (ha : (sc.names.any fun (n, k) => n == y && (k == .local || k == .cell)) = false) : swapsWith (.DictComp kx vx gs sc pos) (some (.Name y py)) l env = pure true := by
  have k1 : env.kindOf y = some .local := hy
  have k2 : env.blockKind = .function := by
    unfold Env.blockKind
    rw [hk]
    rfl
  unfold swapsWith
  simp only [k1, k2, ha, Expr.pos, hl]
  rfl
end
end DS

namespace DS
open PySem PySem.Spec PyProof.Rows L2
/-! ### list(d.keys()) -/
def tListKeys (te : TE) : TE := fun σ H Q => te σ H fun x H1 => ∃ d, x = .ref d ∧
  ((∃ kvs : List (L2.Key × V), H1 d = some (.dK kvs) ∧ ∀ p, H1 p = none → Q (.ref p) (upd H1 p (.lst (kvs.map fun e => kV e.1)))) ∨
   (∃ kvs : List (List L2.Key × V), H1 d = some (.dT kvs) ∧ ∀ p (ts : List Addr), H1 p = none → Paired (fun (t : Addr) (e : List L2.Key × V) => H1 t = some (.tup (e.1.map kV))) ts kvs → Q (.ref p) (upd H1 p (.lst (ts.map V.ref)))))
theorem vals_from {xs : List V} {us : List Value} (hl : xs.length = us.length) (h : ∀ (j : Nat) (x : V) (u : Value), xs[j]? = some x → us[j]? = some u → RelV x u) : Vals xs us := by
  induction xs generalizing us with
  | nil =>
    cases us with
    | nil => exact .nil
    | cons u us => cases hl
  | cons x xs ih =>
    cases us with
    | nil => cases hl
    | cons u us =>
      refine .cons (h 0 x u rfl rfl) (ih (by simpa using hl) fun j y w e1 e2 => h (j + 1) y w ?_ ?_)
      · simpa using e1
      · simpa using e2
section
variable {X : Cx} {e : Expr} {te : TE} {p apos cpos pos : Pos}
theorem lk_fin {pins : List (Addr × Obj)} {σ : L2.St} {H : Hp} {s : Shared} {d : Addr} {es : Array DictEntry} {ep : Nat} {xs : List V} {Q : Value → Shared → Prop} (hc : X.calm = true) (I : Inv X pins σ H s) (raw : s.heap.DictRaw d es ep) (hz : es.size ≤ sizeLine) (hn : xs.length = es.size)
    (hx : ∀ (j : Nat) (hj : j < es.size) (x : V), xs[j]? = some x → RelV x es[j].key) (r : Addr) (hv : s.heap.get? r = some { cls := .type "dict_keys", data := .fields #[.ref d] })
    (q : ∀ s', Inv X pins σ (upd H s.heap.objs.size (.lst xs)) s' → Q (.ref s.heap.objs.size) s') : wpAny (model X.prog X.w) X.A (call (.type "list") [.ref r]) Q X.xe s := by
  refine PySem.W.kdl_call (PySem.KdlSrc.rawKeys (prog := X.prog) (w := X.w) (r := r) (d := d) (es := es) (ep := ep)) (I.ok.hd hc) ⟨⟨_, hv, rfl, rfl⟩, raw⟩ hz ?_
  intro h' tk acc c hk hS hacc
  refine q _ (I.laid (t' := tk) hk (Nat.le_refl _) ?_)
  have hl : acc.toList.length = xs.length := by
    rw [Array.length_toList, hacc.1, hn]
  refine ⟨by rw [hn]; exact hz, acc.toList, c, ?_, ?_⟩
  · refine vals_from hl.symm ?_
    intro j x u e1 e2
    rw [Array.getElem?_toList] at e2
    obtain ⟨hj, rfl⟩ := hacc.2 j u e2
    exact hx j hj x e1
  · rw [Array.toArray_toList]
    exact hS
theorem pe_listKeys (hc : X.calm = true) (he : PE X e te) (hg : Gl X "list") (hm : X.mg "list" = none) (hv : bootBuiltins "list" = some (.type "list")) (hbase : attributeBase e "keys" X.env (eval e X.env) = eval e X.env := by rfl) (hline : (apos.endLine == cpos.line) = true := by rfl)
    (hs : starEach [.Call (.Attribute e "keys" apos) [] [] cpos] X.env = (false, eval (.Call (.Attribute e "keys" apos) [] [] cpos) X.env) :: starEach [] X.env := by rfl) :
    PE X (.Call (.Name "list" p) [.Call (.Attribute e "keys" apos) [] [] cpos] [] pos) (tListKeys te) := by
  constructor
  intro pins s σ H Q I hq
  refine wpAny_Call_Name_kw (ld_blt I hg hm hv (PyProof.Rows.callWith_type1 ?_ hs rfl))
  rw [hs]
  show wpAny _ _ (spliced ((false, eval (.Call (.Attribute e "keys" apos) [] [] cpos) X.env) :: backTo pos (starEach [] X.env))) _ _ s
  refine Calls.spliced_cons (wpAny_Call_method (T := "dict") (id := "dict.keys") hbase rfl hline F.plainAttrs_dict F.slot_dict_keys F.type_dict_keys (thn (he.run pins s σ H _ I hq) ?_))
  rintro u s1 ⟨x, H1, I1, rx, d, rfl, q⟩
  obtain rfl : u = Value.ref d := rx
  have go : ∀ {es : Array DictEntry} {ep : Nat} {xs : List V}, (d == sysModules) = false → s1.heap.DictRaw d es ep → es.size ≤ sizeLine → xs.length = es.size → (∀ (j : Nat) (hj : j < es.size) (x : V), xs[j]? = some x → RelV x es[j].key) →
      (∀ p, H1 p = none → Q (.ref p) (upd H1 p (.lst xs))) → s1.TypeIs (.ref d) "dict" ∧ (∀ b, Value.ref d = .ref b → ∃ ob, s1.heap.get? b = some ob ∧ ob.dict = none) ∧
      wpAny (model X.prog X.w) X.A (callWith cpos (.builtin "dict.keys") [.ref d] [] []) (fun v s' => wpAny (model X.prog X.w) X.A (spliced (backTo pos (starEach [] X.env))) (fun vs s'' => wpAny (model X.prog X.w) X.A (call (.type "list") (v :: vs)) (fun w s3 => ∃ x H', Inv X pins σ H' s3 ∧ RelV x w ∧ Q x H') X.xe s'') X.xe s') X.xe s1 := by
    intro es ep xs h0 raw hz hn hx q
    refine ⟨raw.typeIs, ?_, ?_⟩
    · obtain ⟨o, ho, hc, hd⟩ := raw
      intro b hb
      cases hb
      exact ⟨o, ho, hc.2.1⟩
    · have I2 : Inv X pins σ H1 { s1 with heap := s1.heap.push { cls := .type "dict_keys", data := .fields #[.ref d] } } := I1.kept (t' := s1.toks) fun b ob q => Heap.get?_push_of_some _ q
      refine method_meetsIn F.slot_dict_keys F.entry_dict_keys rfl (PySem.evalArgs_none ⟨rfl, raw.typeIs, F.args_dict_keys_1 _, _, PySem.meets_dict_keys_raw d h0, ⟨es, ep, raw⟩, ?_⟩)
      refine Calls.spliced_nil (lk_fin hc I2 (raw.at fun o e => Heap.get?_push_of_some _ e) hz hn hx s1.heap.objs.size (Heap.get?_push_size _ rfl) ?_)
      intro s' J
      exact ⟨.ref _, _, J, rfl, q _ (I2.hok.fresh (Nat.le_refl _))⟩
  rcases q with ⟨kvs, hd, q⟩ | ⟨kvs, hd, q⟩
  · obtain ⟨z, h0, vs, kv, dd⟩ := L2.dk_of I1.hok hd
    obtain ⟨es, ep, raw, hsz, hent⟩ := dd.raw
    have hl : kvs.length = vs.length := Paired.length kv
    exact go (xs := kvs.map fun e => kV e.1) h0 raw (by omega) (by rw [List.length_map]; omega) (by
      intro j hj x hx
      rw [List.getElem?_map, Option.map_eq_some_iff] at hx
      obtain ⟨⟨k, v⟩, hk, rfl⟩ := hx
      obtain ⟨⟨k2, w⟩, hw, hk2, _⟩ := LiI.paired_get kv hk
      have hk2 : k = k2 := hk2
      subst hk2
      exact relV_key (hent j hj k w hw).1) q
  · obtain ⟨z, h0, xs, kt, dd⟩ := L2.dt_of I1.hok hd
    obtain ⟨es, ep, raw, hsz, hent⟩ := dd.raw
    have hl : kvs.length = xs.length := Paired.length kt
    refine go (xs := (xs.map fun e => e.2.1).map V.ref) h0 raw (by omega) (by rw [List.length_map, List.length_map]; omega) ?_ ?_
    · intro j hj x hx
      rw [List.map_map, List.getElem?_map, Option.map_eq_some_iff] at hx
      obtain ⟨y, hy, rfl⟩ := hx
      obtain ⟨y2, hy2, hk, _⟩ := hent j hj
      rw [hy] at hy2
      cases hy2
      rw [hk]
      rfl
    · intro p hp
      refine q p _ hp ?_
      have key : ∀ {l : List (List L2.Key × V)} {m : List (List L2.Key × Addr × Value)}, KT H1 l m → Paired (fun (t : Addr) (e : List L2.Key × V) => H1 t = some (.tup (e.1.map kV))) (m.map fun e => e.2.1) l := by
        intro l m q
        induction q with
        | nil => exact .nil
        | @cons p q ps qs hq t ih => exact .cons hq.2.1 ih
      exact key kt
/-- the keys of a dict, in a new list -/
def keysOf : D → Option (List D)
  | .dK kvs => some (kvs.map fun e => kD e.1)
  | .dT kvs => some (kvs.map fun e => kTD e.1)
  | _ => none
def wLKeys (w : WE) : WE := fun a q qe => w a (fun r a1 => onO (con a1 r) fun d => onO (keysOf d) fun ks => q (.new (.lst ks)) a1) qe
theorem reps_kDs {K : PySem.W.Frag} {F : Hp} : ∀ {vs : List (L2.Key × V)} {ds : List (L2.Key × D)}, RepA K F vs ds → Reps K F (vs.map fun e => kV e.1) (ds.map fun e => kD e.1)
  | _, _, .nil => .nil
  | _, _, .cons _ t => .cons (rep_kD _) (reps_kDs t)
theorem take_tups {K : PySem.W.Frag} {E : En} {H : Hp} {σ : L2.St} {a : PSt} : ∀ {ts : List Addr} {vs : List (List L2.Key × V)}, Paired (fun (t : Addr) (e : List L2.Key × V) => H t = some (.tup (e.1.map kV))) ts vs → ∀ {F F0 : Hp} {ds : List (List L2.Key × D)}, Rel K E F H σ a → RepA K F0 vs ds →
    ∃ F', Same F F' ∧ Rel K E F' H σ a ∧ Reps K F' (ts.map V.ref) (ds.map fun e => kTD e.1) := by
  intro ts vs h
  induction h with
  | nil =>
    intro F F0 ds R r
    cases r
    exact ⟨F, Same.refl F, R, .nil⟩
  | @cons t e ts vs h1 h2 ih =>
    intro F F0 ds R r
    cases r with
    | cons rd rt =>
      obtain ⟨F1, s1, R1, f1⟩ := R.takeTup h1
      obtain ⟨F2, s2, R2, rs⟩ := ih R1 rt
      exact ⟨F2, s1.trans s2, R2, .cons (.tup (s2 _ _ f1) (reps_kD _)) rs⟩
theorem se_listKeys {W : L2.St → XK} {w : WE} (hc : X.calm = true) (h : SE X W e te w) (hg : Gl X "list") (hm : X.mg "list" = none) (hv : bootBuiltins "list" = some (.type "list")) (hbase : attributeBase e "keys" X.env (eval e X.env) = eval e X.env := by rfl) (hline : (apos.endLine == cpos.line) = true := by rfl)
    (hs : starEach [.Call (.Attribute e "keys" apos) [] [] cpos] X.env = (false, eval (.Call (.Attribute e "keys" apos) [] [] cpos) X.env) :: starEach [] X.env := by rfl) :
    SE X W (.Call (.Name "list" p) [.Call (.Attribute e "keys" apos) [] [] cpos] [] pos) (tListKeys te) (wLKeys w) := by
  refine ⟨pe_listKeys hc h.1 hg hm hv hbase hline hs, fun E F H σ a Q q qe R hw l lx => h.2 E F H σ a _ _ qe R hw (fun v r F1 H1 a1 e1 R1 rp hq => ?_) lx⟩
  obtain ⟨d, hd, hq⟩ := onO_iff.mp hq
  obtain ⟨ks, hk, hq⟩ := onO_iff.mp hq
  have rd := rd_of R1 rp hd
  unfold keysOf at hk
  split at hk
  · cases hk
    obtain ⟨a0, vs, rfl, ha, r⟩ := dk_of R1.ext rd
    refine ⟨a0, rfl, .inl ⟨vs, ha, fun p hp => ?_⟩⟩
    obtain ⟨f1, f2, f3⟩ := R1.fresh hp
    exact l (.ref p) (.new _) F1 _ a1 e1 (R1.lay _ hp) ⟨p, rfl, f1, f2, ⟨_, upd_same, .lst (reps_kDs r)⟩, f3⟩ hq
  · cases hk
    obtain ⟨a0, vs, rfl, ha, r⟩ := dt_of R1.ext rd
    refine ⟨a0, rfl, .inr ⟨vs, ha, fun p ts hp hts => ?_⟩⟩
    obtain ⟨F2, s2, R2, rs⟩ := take_tups hts R1 r
    obtain ⟨f1, f2, f3⟩ := R2.fresh hp
    exact l (.ref p) (.new _) F2 _ a1 (e1.trans s2) (R2.lay _ hp) ⟨p, rfl, f1, f2, ⟨_, upd_same, .lst rs⟩, f3⟩ hq
  · cases hk
end
/-! ### sorted(..) of ints, of pairs of ints -/
def iiD (p : Int × Int) : D := .tup [.int p.1, .int p.2]
def prOf : D → Option (Int × Int)
  | .tup [.int i, .int j] => some (i, j)
  | _ => none
def prsOf : List D → Option (List (Int × Int))
  | [] => some []
  | d :: ds => match prOf d, prsOf ds with
    | some p, some ps => some (p :: ps)
    | _, _ => none
theorem prsOf_map : ∀ ps : List (Int × Int), prsOf (ps.map iiD) = some ps
  | [] => rfl
  | p :: ps => by
    rw [List.map_cons, prsOf, prsOf_map ps]
    rfl
theorem prsOf_some : ∀ {ds : List D} {ps : List (Int × Int)}, prsOf ds = some ps → ds = ps.map iiD
  | [], ps, h => by cases h; rfl
  | d :: ds, ps, h => by
    unfold prsOf at h
    split at h
    · rename_i p qs h1 h2
      cases h
      rw [List.map_cons, ← prsOf_some h2]
      unfold prOf at h1
      split at h1
      · cases h1; rfl
      · cases h1
    · cases h
def dSortI : DCall := fun ds k => match ds with
  | [d] => onO (listOf d) fun xs => onO (intsOf xs) fun ns => ∀ ns' : List Int, ns'.Perm ns → ns'.Pairwise (· ≤ ·) → k (.new (.lst (ns'.map D.int)))
  | _ => False
def dSortP : DCall := fun ds k => match ds with
  | [d] => onO (listOf d) fun xs => onO (prsOf xs) fun ps => ∀ qs : List (Int × Int), qs.Perm ps → qs.Pairwise (fun x y => ¬ (y.1 < x.1 ∨ (y.1 = x.1 ∧ y.2 < x.2))) → k (.new (.lst (qs.map iiD)))
  | _ => False
section
variable {K : PySem.W.Frag} {F H : Hp}
theorem lst_rd {v : V} {d : D} {xs : List D} (e : Same F H) (h : RdD K F H v d) (hd : listOf d = some xs) : ∃ p vs, v = .ref p ∧ SqL K H p vs ∧ Reps K F vs xs := by
  cases d with
  | lst ys => cases hd; obtain ⟨p, vs, h1, h2, h3⟩ := h.lst e; exact ⟨p, vs, h1, .of h2, h3⟩
  | rol ys => cases hd; obtain ⟨p, vs, h1, h2, h3⟩ := h.rol e; exact ⟨p, vs, h1, h2, h3⟩
  | _ => cases hd
theorem dSortI_ok : CallS K (rSortedI K) dSortI := by
  intro E F H σ a vs ds Q k R h ho l
  unfold dSortI at ho
  split at ho
  · obtain ⟨xs, h1, ho⟩ := onO_iff.mp ho
    obtain ⟨ns, h2, ho⟩ := onO_iff.mp ho
    cases h with
    | cons h t =>
      cases t
      obtain ⟨p, vs, rfl, hp, r⟩ := lst_rd R.ext h h1
      refine ⟨p, ns, rfl, by rw [← ints_of h2 r]; exact hp, fun ns' q hperm hs hq => ?_⟩
      obtain ⟨f1, f2, f3⟩ := R.fresh hq
      exact l (.ref q) (.new _) F _ (Same.refl F) (R.lay _ hq) ⟨q, rfl, f1, f2, ⟨_, upd_same, .lst (reps_ints ns')⟩, f3⟩ (ho ns' hperm hs)
  · exact ho.elim
/-- the pair that a tracked tuple holds -/
def prAt (H : Hp) : V → Int × Int
  | .ref t => match H t with
    | some (.tup [.int i, .int j]) => (i, j)
    | _ => (0, 0)
  | _ => (0, 0)
theorem prs_rep (e : Same F H) : ∀ {vs : List V} {ps : List (Int × Int)}, Reps K F vs (ps.map iiD) → (vs.map (prAt H) = ps ∧ ∀ x ∈ vs, ∃ t, x = V.ref t ∧ F t = some (.tup [.int (prAt H x).1, .int (prAt H x).2]))
  | vs, [], h => by
    cases h
    exact ⟨rfl, by simp⟩
  | vs, p :: ps, h => by
    cases h with
    | cons r t =>
      obtain ⟨h1, h2⟩ := prs_rep e t
      obtain ⟨i, j⟩ := p
      cases r with
      | @tup t0 _ _ hf rr =>
        cases rr with
        | cons ra rr =>
          cases rr with
          | cons rb rr =>
            cases rr
            cases ra
            cases rb
            have hp : prAt H (.ref t0) = (i, j) := by
              simp only [prAt, e _ _ hf]
            refine ⟨by rw [List.map_cons, h1, hp], fun x hx => ?_⟩
            rcases List.mem_cons.mp hx with rfl | hx
            · exact ⟨_, rfl, by rw [hp]; exact hf⟩
            · exact h2 x hx
theorem prs_back {ys : List V} (h : ∀ x ∈ ys, ∃ t, x = V.ref t ∧ F t = some (.tup [.int (prAt H x).1, .int (prAt H x).2])) : Reps K F ys ((ys.map (prAt H)).map iiD) := by
  induction ys with
  | nil => exact .nil
  | cons y ys ih =>
    obtain ⟨t, e, ht⟩ := h y (List.mem_cons_self ..)
    refine .cons ?_ (ih fun x hx => h x (List.mem_cons_of_mem _ hx))
    subst e
    exact .tup ht (.cons (.int _) (.cons (.int _) .nil))
theorem dSortP_ok : CallS K (rSortedPO K) dSortP := by
  intro E F H σ a vs ds Q k R h ho l
  unfold dSortP at ho
  split at ho
  · obtain ⟨xs, h1, ho⟩ := onO_iff.mp ho
    obtain ⟨ps, h2, ho⟩ := onO_iff.mp ho
    cases h with
    | cons h t =>
      cases t
      obtain ⟨p, vs, rfl, hp, r⟩ := lst_rd R.ext h h1
      rw [prsOf_some h2] at r
      obtain ⟨k1, k2⟩ := prs_rep R.ext r
      refine ⟨p, vs, prAt H, rfl, hp, fun x hx => ?_, fun ys q hs hb hq => ?_⟩
      · obtain ⟨t, e1, e2⟩ := k2 x hx
        exact ⟨t, e1, R.ext _ _ e2⟩
      · obtain ⟨f1, f2, f3⟩ := R.fresh hq
        have hperm := hb.perm
        refine l (.ref q) (.new _) F _ (Same.refl F) (R.lay _ hq) ⟨q, rfl, f1, f2, ⟨_, upd_same, .lst (prs_back fun x hx => k2 x (hperm.mem_iff.mp hx))⟩, f3⟩ (ho (ys.map (prAt H)) ?_ ?_)
        · rw [← k1]
          exact hperm.map _
        · rw [List.pairwise_map]
          exact hs.imp fun {x y} z => SrtO.lexB_no.mp z
  · exact ho.elim
end
/-! ### a walk of a list of the memory -/
/-- Inv by the turn; the list stays what it is -/
@[irreducible] def forA (p : Addr) (items : List D) (wg : WG) (wb : WM) (D : EndsG) (g : Gm) (a : PSt) : Prop := ∃ Inv : Nat → Gm → PSt → Prop, Inv 0 g a ∧ (∀ i g2 a2, Inv i g2 a2 → gAt g2 p = some (.lst items)) ∧
  (∀ i g2 a2 d, items[i]? = some d → Inv i g2 a2 → wg d a2 fun a3 => wb g2 { D with nx := Inv (i + 1), ct := Inv (i + 1), bk := D.nx } a3) ∧ ∀ g2 a2, Inv items.length g2 a2 → D.nx g2 a2
theorem fora_i {p : Addr} {items : List D} {wg : WG} {wb : WM} {D : EndsG} {g : Gm} {a : PSt} (Inv : Nat → Gm → PSt → Prop) (h0 : Inv 0 g a) (hk : ∀ i g2 a2, Inv i g2 a2 → gAt g2 p = some (.lst items))
    (hs : ∀ i g2 a2 d, items[i]? = some d → Inv i g2 a2 → wg d a2 fun a3 => wb g2 { D with nx := Inv (i + 1), ct := Inv (i + 1), bk := D.nx } a3) (he : ∀ g2 a2, Inv items.length g2 a2 → D.nx g2 a2) : forA p items wg wb D g a := by
  unfold forA
  exact ⟨Inv, h0, hk, hs, he⟩
def wmForA (i : Nat) (wg : WG) (wb : WM) : WM := fun g D a => onAdr a[i]? fun p => onLs (gAt g p) fun xs => forA p xs wg wb D g a
theorem sm_forA {X : Cx} {W : L2.St → XK} {tg e : Expr} {i : Nat} {gg : TG} {wg : WG} {sl : List Nat} {tb' : TS} {wb : WM} {pos : Pos} {body : List Stmt} (hp : PassesOwn (model X.prog X.w) X.A X.env X.xe) (hc : X.calm = true) (he : PE X e (tVar i)) (hg : SG X tg gg wg sl) (hb : SMs X W body tb' wb)
    (hs : ∀ x, foldedSetIterable e X.env x = pure x := by intro _; rfl) : SM X W (.For tg e body [] pos) (tFor (iList X.K (tVar i)) gg tb') (wmForA i wg wb) := by
  refine ⟨ps_for hp hc (pi_list he) hg.1 hb.1 hs, fun E F H σ a g D DA Rl hw l => ?_⟩
  obtain ⟨p, ha, hw⟩ := onAdr_iff.mp hw
  obtain ⟨items, hgp, hw⟩ := onLs_iff.mp hw
  unfold forA at hw
  obtain ⟨Inv, h0, hk, hst, hend⟩ := hw
  have seq : ∀ {F2 H2 : Hp} {σ2 : L2.St} {a2 : PSt} {g2 : Gm}, RelG X.K E F2 H2 σ2 a2 g2 → gAt g2 p = some (.lst items) → ∃ vs, H2 p = some (.lst vs) ∧ Reps X.K F2 vs items := by
    intro F2 H2 σ2 a2 g2 R2 h2
    obtain ⟨_, _, _, o, ho, t⟩ := R2.m p _ h2
    cases t with
    | lst r => exact ⟨_, ho, r⟩
  obtain ⟨vs, hp1, _⟩ := seq Rl hgp
  refine ⟨.ref p, slot_adr Rl.r ha, p, rfl, ⟨vs, SqL.of hp1⟩, ?_⟩
  refine ⟨fun i m σ' H' => m = items.length - i ∧ i ≤ items.length ∧ ∃ F2 a2 g2, Same F F2 ∧ RelG X.K E F2 H' σ' a2 g2 ∧ Inv i g2 a2, ⟨_, rfl, Nat.zero_le _, F, a, g, Same.refl F, Rl, h0⟩, ?_⟩
  rintro i m σ' H' ⟨rfl, hi', F2, a2, g2, s2, R2, hinv⟩
  obtain ⟨vs, hp2, rp2⟩ := seq R2 (hk i g2 a2 hinv)
  by_cases hlt : i < items.length
  · have hlv : i < vs.length := by
      rw [rp2.length]
      exact hlt
    refine .inr ⟨⟨vs, vs[i], SqL.of hp2, List.getElem?_eq_getElem hlv⟩, fun σ3 H3 => ∃ F3 a3 g3, Same F F3 ∧ RelG X.K E F3 H3 σ3 a3 g3 ∧ Inv (i + 1) g3 a3, fun σ3 H3 ⟨F3, a3, g3, s3, R3, h3⟩ => ⟨items.length - (i + 1), by omega, rfl, hlt, F3, a3, g3, s3, R3, h3⟩, fun x H3 y => ?_⟩
    obtain ⟨rfl, y⟩ := y
    obtain ⟨d, hd, rp⟩ := rp2.get (y vs (SqL.of hp2))
    refine hg.2 (E.mem H3 g2) F2 H3 σ' a2 x d _ _ R2.to rp (hst i g2 a2 d hd hinv) fun σ4 a4 _ R4 hq4 => hb.2 E F2 H3 σ4 a4 g2 _ _ (R2.of (Same.refl F2) R4) hq4 ⟨fun σ5 F5 H5 a5 g5 e5 R5 q5 => ?_, fun σ5 F5 H5 a5 g5 e5 R5 q5 => ?_, fun σ5 F5 H5 a5 g5 e5 R5 q5 => ?_, fun σ5 F5 H5 a5 v r e5 => ?_, fun σ5 => ?_⟩
    · exact ⟨F5, a5, g5, s2.trans e5, R5, q5⟩
    · exact l.nx σ5 F5 H5 a5 g5 (s2.trans e5) R5 q5
    · exact ⟨F5, a5, g5, s2.trans e5, R5, q5⟩
    · exact l.rt σ5 F5 H5 a5 v r (s2.trans e5)
    · exact (l.ex σ5).to s2
  · have e : i = items.length := by omega
    subst e
    exact .inl ⟨⟨vs, SqL.of hp2, by rw [rp2.length]; exact Nat.le_refl _⟩, l.nx σ' F2 H' a2 g2 s2 R2 (hend g2 a2 hinv)⟩
end DS

namespace DS
open PySem PySem.Spec PyProof.Rows L2
/-! ### a dict of the memory is data from here on -/
section
variable {X : Cx} {W : L2.St → XK} {st : List Stmt} {t : TS} {w : WM}
def wmFzK (i : Nat) (w : WM) : WM := fun g DA a => onAdr a[i]? fun root => ∃ es : List (L2.Key × Addr × List D), TabG D.dK g root es ∧ w [] DA (a.set i (some ⟨.no, .dK ((tabOf es).map fun e => (e.1, .lst e.2))⟩))
def wmFzDT (i : Nat) (w : WM) : WM := fun g DA a => onAdr a[i]? fun root => ∃ es : List (List L2.Key × Addr × List D), TabG D.dT g root es ∧ w [] DA (a.set i (some ⟨.no, .dT ((tabOf es).map fun e => (e.1, .lst e.2))⟩))
theorem sms_fzK (i : Nat) (h : SMs X W st t w) : SMs X W st t (wmFzK i w) := by
  refine ⟨h.1, fun E F H σ a g D DA R hw l => ?_⟩
  obtain ⟨root, hr, es, hT, hk⟩ := onAdr_iff.mp hw
  obtain ⟨F2, s, R2, rp⟩ := tab_freezeK R hT
  have rp2 : Rep X.K F2 (.ref root) (.dK ((tabOf es).map fun e => (e.1, .lst e.2))) := by
    unfold tabOf
    rw [List.map_map]
    exact rp
  exact h.2 E F2 H σ _ [] D DA ⟨rel_same R2 (slot_adr R.r hr) rp2, mem_nil⟩ hk (l.to s)
theorem sms_fzDT (i : Nat) (h : SMs X W st t w) : SMs X W st t (wmFzDT i w) := by
  refine ⟨h.1, fun E F H σ a g D DA R hw l => ?_⟩
  obtain ⟨root, hr, es, hT, hk⟩ := onAdr_iff.mp hw
  obtain ⟨F2, s, R2, rp⟩ := tab_freezeT R hT
  have rp2 : Rep X.K F2 (.ref root) (.dT ((tabOf es).map fun e => (e.1, .lst e.2))) := by
    unfold tabOf
    rw [List.map_map]
    exact rp
  exact h.2 E F2 H σ _ [] D DA ⟨rel_same R2 (slot_adr R.r hr) rp2, mem_nil⟩ hk (l.to s)
end
/-! ### a comprehension over a list of one's own that stays one's own -/
@[irreducible] def lcO (k : Nat) (o : Ow) (items : List D) (vs : List Nat) (wg : WG) (wt : WT) (we : WE) (a1 : PSt) (q : Res → PSt → Prop) : Prop := ∃ Inv : Nat → List D → PSt → Prop, Inv 0 [] a1 ∧ (∀ i acc a2, Inv i acc a2 → a2[k]? = some (some ⟨o, .lst items⟩)) ∧
  (∀ i acc a2 d, items[i]? = some d → Inv i acc a2 → wg d (wipeA a2 vs) fun a3 => wt a3 (fun b a4 => br b
    (we a4 (fun r a5 => fz r a5 fun y a6 => acc.length < sizeLine ∧ Inv (i + 1) (acc ++ [y]) (wipeA a6 vs)) (fun _ _ => False)) (Inv (i + 1) acc (wipeA a4 vs))) (fun _ _ => False)) ∧
  ∀ acc a2, Inv items.length acc a2 → q (.new (.lst acc)) (keepNo a1 vs a2)
theorem lc_o {k : Nat} {o : Ow} {items : List D} {vs : List Nat} {wg : WG} {wt : WT} {we : WE} {a1 : PSt} {q : Res → PSt → Prop} (Inv : Nat → List D → PSt → Prop) (h0 : Inv 0 [] a1) (hk : ∀ i acc a2, Inv i acc a2 → a2[k]? = some (some ⟨o, .lst items⟩))
    (hs : ∀ i acc a2 d, items[i]? = some d → Inv i acc a2 → wg d (wipeA a2 vs) fun a3 => wt a3 (fun b a4 => br b
    (we a4 (fun r a5 => fz r a5 fun y a6 => acc.length < sizeLine ∧ Inv (i + 1) (acc ++ [y]) (wipeA a6 vs)) (fun _ _ => False)) (Inv (i + 1) acc (wipeA a4 vs))) (fun _ _ => False))
    (he : ∀ acc a2, Inv items.length acc a2 → q (.new (.lst acc)) (keepNo a1 vs a2)) : lcO k o items vs wg wt we a1 q := by
  unfold lcO
  exact ⟨Inv, h0, hk, hs, he⟩
def wLcO (k : Nat) (vs : List Nat) (wg : WG) (wt : WT) (we : WE) : WE := fun a q _ => onOwn a[k]? fun o items => lcO k o items vs wg wt we a q
theorem own_at {K : PySem.W.Frag} {E : En} {F H : Hp} {i : Nat} {v : V} {o : Ow} {items : List D} (ho : o ≠ .no) (h : OwnAt K E F H i v ⟨o, .lst items⟩) : ∃ p vs, v = .ref p ∧ H p = some (.lst vs) ∧ Reps K F vs items := by
  cases o with
  | no => exact absurd rfl ho
  | own =>
    obtain ⟨p, rfl, _, _, ob, hob, t⟩ := h
    cases t with
    | lst r => exact ⟨p, _, rfl, hob, r⟩
  | lent =>
    obtain ⟨p, rfl, _, _, _, ob, hob, t⟩ := h
    cases t with
    | lst r => exact ⟨p, _, rfl, hob, r⟩
theorem lcO_ok {X : Cx} {W : L2.St → XK} {k : Nat} {e0 : Expr} (hE : PE X e0 (tVar k)) {g : TG} {wg : WG} {tt : TT} {wt : WT} {te : TE} {we : WE} {vs sl : List Nat}
    (hg : ∀ E F H σ a v d Q q, Rel X.K E F H σ a → Rep X.K F v d → wg d a q → (∀ σ' a', Only sl σ σ' → Rel X.K E F H σ' a' → q a' → Q σ' H) → g v σ H Q) (hsl : ∀ j ∈ sl, j ∈ vs)
    (ht : ∀ E F H σ a Q q qe, Rel X.K E F H σ a → wt a q qe → Lt X.K E F σ q Q → Lx X.K E F σ qe (W0 σ) → tt σ H Q)
    (he : ∀ E F H σ a Q q qe, Rel X.K E F H σ a → we a q qe → Ln X.K E F σ q Q → Lx X.K E F σ qe (W0 σ) → te σ H Q) :
    ∀ E F H σ a Q q qe, Rel X.K E F H σ a → wLcO k vs wg wt we a q qe → Ln X.K E F σ q Q → Lx X.K E F σ qe (W σ) → tLc (iList X.K (tVar k)) g tt te vs σ H Q := by
  intro E F H σ a Q q qe R hw l lx
  obtain ⟨o, items, hl, ho, hw⟩ := onOwn_iff.mp hw
  unfold lcO at hw
  obtain ⟨Inv, h0, hk, hst, hend⟩ := hw
  obtain ⟨v, hσ, hv⟩ := R.sl k _ hl
  obtain ⟨p, xs0, rfl, hp1, _⟩ := own_at ho hv
  have seq : ∀ {E2 : En} {F2 H2 : Hp} {a2 : PSt}, Rel X.K E2 F2 H2 σ a2 → a2[k]? = some (some ⟨o, .lst items⟩) → ∃ xs, H2 p = some (.lst xs) ∧ Reps X.K F2 xs items := by
    intro E2 F2 H2 a2 R2 h2
    obtain ⟨v2, hs2, hv2⟩ := R2.sl k _ h2
    obtain ⟨p2, xs, rfl, hx, r⟩ := own_at ho hv2
    rw [hσ] at hs2
    cases hs2
    exact ⟨xs, hx, r⟩
  refine ⟨.ref p, hσ, p, rfl, ⟨xs0, SqL.of hp1⟩, ?_⟩
  intro Dd hD
  obtain ⟨f1, f2, f3⟩ := R.fresh hD
  have hL : ¬ E.L Dd := fun z => R.lt Dd z f2
  have hF0 : E.F Dd = none := R.f0.free f1
  have nt : ∀ (zs : List V) (xs : List V), (HO.lst zs) ≠ .tup xs := fun zs xs z => by cases z
  refine ⟨fun i m H' => m = items.length - i ∧ i ≤ items.length ∧ ∃ F2 a2 accV acc, Same F F2 ∧ Rel X.K (E.side Dd (.lst accV)) F2 H' σ a2 ∧ Reps X.K F2 accV acc ∧ Inv i acc a2,
    ⟨_, rfl, Nat.zero_le _, F, a, [], [], Same.refl F, (R.lay (.lst []) hD).toSide f1 f2 f3 upd_same, .nil, h0⟩, ?_⟩
  rintro i m H' ⟨rfl, hi', F2, a2, accV, acc, s2, R2, racc, hinv⟩
  obtain ⟨xs, hp2, rp2⟩ := seq R2 (hk i acc a2 hinv)
  by_cases hlt : i < items.length
  · have hlv : i < xs.length := by
      rw [rp2.length]
      exact hlt
    refine .inr ⟨⟨xs, xs[i], SqL.of hp2, List.getElem?_eq_getElem hlv⟩, fun H3 => ∃ F3 a3 accV acc, Same F F3 ∧ Rel X.K (E.side Dd (.lst accV)) F3 H3 σ a3 ∧ Reps X.K F3 accV acc ∧ Inv (i + 1) acc a3,
      fun H3 ⟨F3, a3, av, ac, s3, R3, r3, h3⟩ => ⟨items.length - (i + 1), by omega, rfl, hlt, F3, a3, av, ac, s3, R3, r3, h3⟩, fun x H3 y => ?_⟩
    obtain ⟨rfl, y⟩ := y
    obtain ⟨d, hd, rp⟩ := rp2.get (y xs (SqL.of hp2))
    refine hg _ F2 H3 (L2.wipe σ vs) (wipeA a2 vs) x d _ _ (R2.wipe vs) rp (hst i acc a2 d hd hinv) fun σ4 a4 o4 R4 hq4 => ⟨wipe_only o4 hsl, ?_⟩
    have back : ∀ {F5 H5 : Hp} {a5 : PSt} {EE : En}, Rel X.K EE F5 H5 σ4 a5 → Rel X.K EE F5 H5 σ (wipeA a5 vs) := by
      intro F5 H5 a5 EE R5
      refine R5.less (by rw [wipeA_length, R5.len, o4.1, L2.wipe_length]) fun j av e => ?_
      obtain ⟨h1, h2⟩ := wipeA_some e
      refine ⟨h1, ?_⟩
      rw [o4.2 j fun z => h2 (hsl j z), L2.wipe_out h2]
    refine ht _ F2 H3 σ4 a4 _ _ _ R4 hq4 (fun b F5 H5 a5 e5 R5 q5 => ?_) (fun x a c dx F5 H5 _ _ _ z => z)
    cases b with
    | false =>
      rw [if_neg Bool.false_ne_true]
      exact ⟨F5, _, accV, acc, s2.trans e5, back R5, racc.mono e5, br_ff q5 rfl⟩
    | true =>
      rw [if_pos rfl]
      refine he _ F5 H5 σ4 a5 _ _ _ R5 (br_tt q5 rfl) (fun v r F6 H6 a6 e6 R6 rp6 q6 => ?_) (fun x a c dx F5 H5 _ _ _ z => z)
      obtain ⟨F7, a7, yd, s7, R7, rp7, hz, hinv'⟩ := fz_ok R6 rp6 q6
      have R8 := back R7
      obtain ⟨_, _, _, g3⟩ := R8.ofSide f2 hL hF0 (nt accV)
      have sAll : Same F2 F7 := (e5.trans e6).trans s7
      have racc' : Reps X.K F7 accV acc := racc.mono sAll
      exact ⟨accV, g3, by rw [racc'.length]; exact hz, F7, _, accV ++ [v], acc ++ [yd], s2.trans sAll, R8.sideSet f2 hL hF0 (nt accV), racc'.append (.cons rp7 .nil), hinv'⟩
  · have e : i = items.length := by omega
    subst e
    obtain ⟨R3, g1, g2, g3⟩ := R2.ofSide f2 hL hF0 (nt accV)
    refine .inl ⟨⟨xs, SqL.of hp2, by rw [rp2.length]; exact Nat.le_refl _⟩, ?_⟩
    refine l (.ref Dd) (.new (.lst acc)) F2 H' _ s2 (Rel.keepNo R s2 R3 vs) ⟨Dd, rfl, g1, f2, ⟨_, g3, .lst racc⟩, ?_⟩ (hend acc a2 hinv)
    rintro ⟨j, av, h1, h2, h3⟩
    exact g2 ⟨j, av, keepNo_own vs j av h1 h2, h2, h3⟩
section
variable {X : Cx} {W : L2.St → XK}
theorem se_lcO {k : Nat} {elt tg iter : Expr} {ifs : List Expr} {sc : Scope} {own : List (Str × Nat)} {pos : Pos} {wg : WG} {wt : WT} {we : WE} {sl : List Nat} (hc : X.calm = true) (hN : X.N.Nodup) (hi : PE X iter (tVar k)) (ok : BlkOk X.N X.env.scope sc own)
    (hg : InBlk X sc fun Y => ∃ g, SG Y tg g wg sl) (hsl : ∀ j ∈ sl, j ∈ own.map (·.2)) (ht : InBlk X sc fun Y => ∃ t, STs Y W0 ifs t wt) (he : InBlk X sc fun Y => ∃ t, SE Y W0 elt t we) (hs : ∀ x, foldedSetIterable iter X.env x = pure x := by intro _; rfl) :
    SE X W (.ListComp elt [⟨tg, iter, ifs, 0⟩] sc pos) (tLc (iList X.K (tVar k)) (gG X.K wg sl) (tT X.K W0 wt) (tE X.K W0 we) (own.map (·.2))) (wLcO k (own.map (·.2)) wg wt we) :=
  ⟨pe_lc hc hN (pi_list hi) ok (fun s H C cl fp => (hg s H C cl fp).elim fun _ h => h.own) (fun s H C cl fp => (ht s H C cl fp).elim fun _ h => h.own) (fun s H C cl fp => (he s H C cl fp).elim fun _ h => h.own) hs,
    lcO_ok hi (fun E F H σ a v d Q q R rp hw l => ⟨E, F, a, d, q, R, rp, hw, l⟩) hsl (fun E F H σ a Q q qe R hw l lx => ⟨E, F, a, q, qe, R, hw, l, lx⟩) (fun E F H σ a Q q qe R hw l lx => ⟨E, F, a, q, qe, R, hw, l, lx⟩)⟩
theorem ss_setLcO {k : Nat} {i : Nat} {y : Str} {py : Pos} {elt tg iter : Expr} {ifs : List Expr} {sc : Scope} {own : List (Str × Nat)} {pos spos : Pos} {wg : WG} {wt : WT} {we : WE} {sl : List Nat} (hc : X.calm = true) (hN : X.N.Nodup) (hy : X.N[i]? = some y) (hyl : X.env.scope.names.lookup y = some .local)
    (hsw : swapsWith (.ListComp elt [⟨tg, iter, ifs, 0⟩] sc pos) (some (.Name y py)) spos.line X.env = pure true) (hi : PE X iter (tVar k)) (ok : BlkOk X.N X.env.scope sc own)
    (hg : InBlk X sc fun Y => ∃ g, SG Y tg g wg sl) (hsl : ∀ j ∈ sl, j ∈ own.map (·.2)) (ht : InBlk X sc fun Y => ∃ t, STs Y W0 ifs t wt) (he : InBlk X sc fun Y => ∃ t, SE Y W0 elt t we) (hs : ∀ x, foldedSetIterable iter X.env x = pure x := by intro _; rfl) :
    SS X W (.Assign [.Name y py] (.ListComp elt [⟨tg, iter, ifs, 0⟩] sc pos) spos) (tAsg (tLc (iList X.K (tVar k)) (gG X.K wg sl) (tT X.K W0 wt) (tE X.K W0 we) (own.map (·.2))) (gName i)) (wSet i (wLcO k (own.map (·.2)) wg wt we)) := by
  refine ⟨ps_setLc hc hN hy hyl hsw (pi_list hi) ok (fun s H C cl fp => (hg s H C cl fp).elim fun _ h => h.own) (fun s H C cl fp => (ht s H C cl fp).elim fun _ h => h.own) (fun s H C cl fp => (he s H C cl fp).elim fun _ h => h.own) hs, fun E F H σ a D DA R hw l => ?_⟩
  refine lcO_ok (W := W) hi (fun E F H σ a v d Q q R rp hw l => ⟨E, F, a, d, q, R, rp, hw, l⟩) hsl (fun E F H σ a Q q qe R hw l lx => ⟨E, F, a, q, qe, R, hw, l, lx⟩) (fun E F H σ a Q q qe R hw l lx => ⟨E, F, a, q, qe, R, hw, l, lx⟩) E F H σ a _ _ _ R hw (fun v r F' H' a' e R' rp q => ?_) (l.ex σ)
  obtain ⟨F2, a2, s, R2, hk⟩ := sto_ok R' rp q
  exact l.nx _ F2 H' a2 (e.trans s) R2 hk
end
end DS

namespace DS
open PySem PySem.Spec PyProof.Rows L2
/-! ### what is never come to; a try whose body raises nothing -/
section
variable {X : Cx} {W : L2.St → XK}
def wNever : WS := fun _ _ => False
theorem ss_never {st : Stmt} : SS X W st tNever wNever := ⟨ps_never, fun _ _ _ _ _ _ _ _ h _ => h.elim⟩
def tS (K : PySem.W.Frag) (W : L2.St → XK) (w : WS) : TS := fun D σ H => ∃ E F a DA, Rel K E F H σ a ∧ w DA a ∧ Lk K E F D DA W
theorem SSs.own {st : List Stmt} {t : TS} {w : WS} (h : SSs X W st t w) : PSs X st (tS X.K W w) :=
  ⟨fun pins s σ H D I ⟨E, F, a, DA, R, hw, l⟩ => h.1.run pins s σ H D I (h.2 E F H σ a D DA R hw l)⟩
def wTry0 (w : WS) : WS := fun DA a => w { DA with ex := fun _ _ => False } a
theorem ss_try0 {x : Str} {c : Value} {body suite : List Stmt} {b₀ : Stmt} {np pos pos' : Pos} {w : WS} (hs : X.stack = X.env :: X.outer) (hf : X.env.frame = some X.env.locals) (hc : Names X x c)
    (hb : ∀ (pn : List (Addr × Obj)) (xe : Value → Shared → Prop), PassesOwn (model X.prog X.w) X.A X.env xe → ∃ t, SSs (X.tr pn xe) W0 body t w) :
    SS X W (.Try body [.ExceptHandler (some (.Name x np)) none (b₀ :: suite) pos'] [] [] pos) (fun D σ H => tS X.K W0 w D σ H) (wTry0 w) := by
  refine ⟨ps_try_only (tb := fun _ => tS X.K W0 w) (ts := fun _ _ _ => tNever) (Wout := fun _ _ _ _ => False) hs hf hc ?_ ?_ ?_, fun E F H σ a D DA R hw l => ?_⟩
  · rintro u s' ⟨a, B, sI, pins, σ, H, cls, d, e, I, nb, up, sky, na, os, ag, w⟩
    exact w.elim
  · intro _ pn xe _ hp
    obtain ⟨t, h⟩ := hb pn xe hp
    exact h.own
  · intro a oe cls d pn _ _
    exact pss_never
  · refine ⟨E, F, a, _, R, hw, l.nx, l.bk, l.ct, l.rt, ?_⟩
    intro τ x a' cls dx F' H' _ _ _ z
    exact z.elim
end
end DS

namespace DS
open PySem PySem.Spec PyProof.Rows L2
/-! ### x = y.pop() -/
section
variable {X : Cx} {W : L2.St → XK} {pos : Pos}
def wSetPop (j i : Nat) : WS := fun D a => onOwn a[i]? fun o xs => onO xs.getLast? fun d => D.nx ((a.set i (some ⟨o, .lst xs.dropLast⟩)).set j (some ⟨.no, d⟩))
theorem ss_setPop {i j : Nat} {x : Str} {pos' : Pos} {o : Expr} {apos cpos : Pos} (hN : X.N.Nodup) (hj : X.N[j]? = some x) (hx : Loc X.env.scope x) (ho : PE X o (tVar i)) (hbase : attributeBase o "pop" X.env (eval o X.env) = eval o X.env := by rfl) (hline : (apos.endLine == cpos.line) = true := by rfl)
    (hs : swapsWith (.Call (.Attribute o "pop" apos) [] [] cpos) (some (.Name x pos')) pos.line X.env = pure false := by rfl) (hf : X.fn x = true ∨ X.env.scope.names.lookup x = some .local := by first | exact .inl rfl | exact .inr rfl | assumption) :
    SS X W (.Assign [.Name x pos'] (.Call (.Attribute o "pop" apos) [] [] cpos) pos) (tAsg (tBM0 X.K "list" rPop (tVar i)) (gName j)) (wSetPop j i) := by
  refine ⟨ps_set hN hj hx (pe_bm0 PySem.F.plainAttrs_list PySem.F.slot_list_pop PySem.F.type_list_pop mt_pop ho hbase hline) hs hf, fun E F H σ a D DA R hw l => ?_⟩
  obtain ⟨ow, xs, ha, ho', hw⟩ := onOwn_iff.mp hw
  obtain ⟨d, hd, hk⟩ := onO_iff.mp hw
  obtain ⟨p, vs, hv, hp, r⟩ := slot_list R ha
  rw [List.getLast?_eq_getElem?] at hd
  obtain ⟨y, hy, ry⟩ := r.get' hd
  refine ⟨.ref p, hv, .inl ⟨rfl, vs, .of hp⟩, p, vs, y, rfl, rfl, hp, by rw [r.length]; exact hy, ?_⟩
  have R2 := R.write ha ho' hv (.lst r.dropLast)
  exact l.nx _ F _ _ (Same.refl F) (R2.setDat ry) hk
end
end DS

namespace DS
open PySem PySem.Spec PyProof.Rows L2
/-! ### lists of empty lists, remembered; one of them named; extended -/
section
variable {K : PySem.W.Frag} {E : En} {F H : Hp} {σ : L2.St} {a : PSt} {g : Gm}
theorem MemOk.sideSet {Dd : Addr} {o o' : HO} (M : MemOk K (E.side Dd o) F H σ a g) : MemOk K (E.side Dd o') F (upd H Dd o') σ a g := fun q d e => by
  obtain ⟨f1, f2, f3, u, hu, t⟩ := M q d e
  have hne : q ≠ Dd := fun z => by
    have f2 : upd E.H Dd o q = none := f2
    rw [z, upd_same] at f2
    cases f2
  refine ⟨f1, ?_, f3, u, by rw [upd_ne hne]; exact hu, t⟩
  have f2 : upd E.H Dd o q = none := f2
  show upd E.H Dd o' q = none
  rw [upd_ne hne] at f2 ⊢
  exact f2
theorem MemOk.less {σ' : L2.St} {a' : PSt} (M : MemOk K E F H σ a g) (h : ∀ q, Owned σ' a' q → Owned σ a q) : MemOk K E F H σ' a' g := fun q d e => by
  obtain ⟨f1, f2, f3, u, hu, t⟩ := M q d e
  exact ⟨f1, f2, fun z => f3 (h q z), u, hu, t⟩
end
section
variable {X : Cx} {W : L2.St → XK} {pos : Pos}
/-- x = [[] for y in ys], all remembered -/
def wmLcNL (j : Nat) (wi : WI) (vs : List Nat) (wg : WG) : WM := fun g D a => wi a (fun items a1 => items.length < sizeLine ∧ (∀ d, d ∈ items → wg d (wipeA a1 vs) fun a3 => wipeA a3 vs = wipeA a1 vs) ∧
  ∀ g2 p es, LisG mkL g2 p es → es.map (fun e => e.2.2) = List.replicate items.length [] → D.nx g2 ((keepNo a1 vs (wipeA a1 vs)).set j (some ⟨.no, .adr p⟩))) D.ex
theorem sm_setLcNL {i : Nat} {y : Str} {py p3 : Pos} {tg iter : Expr} {scope : Scope} {own : List (Str × Nat)} {pos spos : Pos} {ti : TI} {wi : WI} {wg : WG} {sl : List Nat} (hc : X.calm = true) (hN : X.N.Nodup) (hy : X.N[i]? = some y) (hyl : X.env.scope.names.lookup y = some .local)
    (hsw : swapsWith (.ListComp (.List [] p3) [⟨tg, iter, [], 0⟩] scope pos) (some (.Name y py)) spos.line X.env = pure true) (hi : SI X W tg iter ti wi) (ok : BlkOk X.N X.env.scope scope own)
    (hg : ∀ (s : Shared) (H : Hp) (C : Addr) (cl : List (Str × Addr)) (fp : List Addr), ∃ g, SG (X.blk s H scope (compEnvC scope cl C X.env) fp) tg g wg sl) (hsl : ∀ j ∈ sl, j ∈ own.map (·.2))
    (hs : ∀ x, foldedSetIterable iter X.env x = pure x := by intro _; rfl) :
    SM X W (.Assign [.Name y py] (.ListComp (.List [] p3) [⟨tg, iter, [], 0⟩] scope pos) spos) (tAsg (tLc ti (gG X.K wg sl) tYes (tLst tNil) (own.map (·.2))) (gName i)) (wmLcNL i wi (own.map (·.2)) wg) := by
  refine ⟨ps_setLc hc hN hy hyl hsw hi.1 ok (fun s H C cl fp => let ⟨_, h⟩ := hg s H C cl fp; h.own) (fun s H C cl fp => pts_nil) (fun s H C cl fp => pe_lst pa_nil) hs, fun E F H σ a g D DA R hw l => ?_⟩
  generalize own.map (·.2) = vs at *
  refine hi.2 (E.mem H g) F H σ a _ _ _ R.to hw (fun J items F1 H1 a1 e1 R1 it hq => ?_) (lx_mem R (l.ex σ))
  obtain ⟨hz, hbind, hend⟩ := hq
  have R1 := R.of e1 R1
  intro Dd hD
  obtain ⟨f1, f2, f3⟩ := R1.r.fresh hD
  have hL : ¬ E.L Dd := fun z => R1.r.lt Dd z f2
  have hF0 : E.F Dd = none := R1.r.f0.free f1
  have gD := gAt_free R1 hD
  have R1' := R1.lay (.lst []) hD
  refine ⟨fun i m H' => m = items.length - i ∧ i ≤ items.length ∧ ∃ F2 a2 qs g2, Same F1 F2 ∧ RelG X.K (E.side Dd (.lst (qs.map V.ref))) F2 H' σ a2 g2 ∧ (a2 = a1 ∨ a2 = wipeA a1 vs) ∧ qs.length = i ∧ qs.Nodup ∧ ∀ q ∈ qs, gAt g2 q = some (.lst []),
    ⟨_, rfl, Nat.zero_le _, F1, a1, [], g, Same.refl F1, ⟨R1'.r.toSide f1 f2 f3 upd_same, fun q d e => ?_⟩, .inl rfl, rfl, List.nodup_nil, fun q h => by cases h⟩, ?_⟩
  · obtain ⟨k1, k2, k3, u, hu, t⟩ := R1'.m q d e
    have hne : q ≠ Dd := fun z => by rw [z, gD] at e; cases e
    exact ⟨k1, by show upd E.H Dd _ q = none; rw [upd_ne hne]; exact k2, k3, u, hu, t⟩
  rintro i m H' ⟨rfl, hi', F2, a2, qs, g2, s2, R2, ha2, hql, hnd, hkid⟩
  have ew : wipeA a2 vs = wipeA a1 vs := by
    rcases ha2 with rfl | rfl
    · rfl
    · exact wipe_wipe fun w hw => hw
  by_cases hlt : i < items.length
  · refine .inr ⟨it.go i _ σ a2 F2 H' s2 R2.r hlt, fun H3 => ∃ F3 a3 qs g3, Same F1 F3 ∧ RelG X.K (E.side Dd (.lst (qs.map V.ref))) F3 H3 σ a3 g3 ∧ (a3 = a1 ∨ a3 = wipeA a1 vs) ∧ qs.length = i + 1 ∧ qs.Nodup ∧ ∀ q ∈ qs, gAt g3 q = some (.lst []),
      fun H3 ⟨F3, a3, qs, g3, s3, R3, h3⟩ => ⟨items.length - (i + 1), by omega, rfl, hlt, F3, a3, qs, g3, s3, R3, h3⟩, fun x H3 y => ?_⟩
    obtain ⟨F3, d, s3, R3, hd, rp⟩ := it.yld i ((E.side Dd (.lst (qs.map V.ref))).mem H' g2) σ a2 F2 H' x H3 s2 R2.to hlt y
    have hb := hbind d (List.mem_of_getElem? hd)
    rw [← ew] at hb
    refine ⟨_, F3, wipeA a2 vs, d, _, R3.wipe vs, rp, hb, fun σ4 a4 o4 R4 hq4 => ⟨wipe_only o4 hsl, ?_⟩⟩
    have R5 : Rel X.K ((E.side Dd (.lst (qs.map V.ref))).mem H' g2) F3 H3 σ (wipeA a4 vs) := by
      refine R4.less (by rw [wipeA_length, R4.len, o4.1, L2.wipe_length]) fun j av e => ?_
      obtain ⟨h1, h2⟩ := wipeA_some e
      refine ⟨h1, ?_⟩
      rw [o4.2 j fun z => h2 (hsl j z), L2.wipe_out h2]
    rw [hq4, ew] at R5
    have R6 := R2.of s3 R5
    unfold tYes; dsimp only
    rw [if_pos rfl]
    refine ⟨by simp, fun q hq => ?_⟩
    have R7 := R6.layM hq (Top.lst (K := X.K) (F := F3) (vs := []) (ds := []) .nil)
    have hgq := gAt_free R6 hq
    obtain ⟨_, _, _, g3⟩ := R7.r.ofSide f2 hL hF0
    have hqD : q ≠ Dd := fun z => by
      have := R6.r.keep Dd (.lst (qs.map V.ref)) upd_same hL
      rw [z, this] at hq
      cases hq
    have g4 : H3 Dd = some (.lst (qs.map V.ref)) := by rw [upd_ne (Ne.symm hqD)] at g3; exact g3
    refine ⟨qs.map V.ref, g3, by rw [List.length_map]; omega, F3, _, qs ++ [q], (q, DS.D.lst []) :: g2, s2.trans s3, ?_, .inr rfl, by rw [List.length_append, hql]; rfl, ?_, ?_⟩
    · rw [show qs.map V.ref ++ [V.ref q] = (qs ++ [q]).map V.ref by rw [List.map_append]; rfl]
      exact ⟨R7.r.sideSet f2 hL hF0 (by intro _ z; cases z), R7.m.sideSet⟩
    · rw [List.nodup_append]
      refine ⟨hnd, by simp, fun b hb c hc z => ?_⟩
      rw [List.mem_singleton.mp hc] at z
      have := hkid b hb
      rw [z, hgq] at this
      cases this
    · intro b hb
      rcases List.mem_append.mp hb with z | z
      · rw [gAt_ne (fun y => by have := hkid b z; rw [← y, hgq] at this; cases this)]
        exact hkid b z
      · rw [List.mem_singleton.mp z]
        exact gAt_same
  · have e : i = items.length := by omega
    subst e
    obtain ⟨R3, g1, g2', g3⟩ := R2.r.ofSide f2 hL hF0
    refine .inl ⟨it.stop _ σ a2 F2 H' s2 R2.r, ?_⟩
    have R4 := Rel.keepNo R1.r s2 R3 vs
    have hdq : ∀ q ∈ qs, Dd ≠ q := fun q hq z => by
      obtain ⟨_, k2, _⟩ := R2.m q _ (hkid q hq)
      have k2 : upd E.H Dd _ q = none := k2
      rw [← z, upd_same] at k2
      cases k2
    have M : MemOk X.K E F2 H' σ (keepNo a1 vs a2) ((Dd, .lst (qs.map DS.D.adr)) :: g2) := by
      have own : ∀ q, Owned σ (keepNo a1 vs a2) q → Owned σ a2 q := fun q ⟨j, av, h1, h2, h3⟩ => ⟨j, av, keepNo_own vs j av h1 h2, h2, h3⟩
      intro q d e
      by_cases hq : Dd = q
      · subst hq
        rw [gAt_same] at e
        cases e
        refine ⟨g1, f2, fun z => g2' (own _ z), _, g3, .lst ?_⟩
        clear hkid hdq hnd hql R2 g3
        induction qs with
        | nil => exact .nil
        | cons q qs ih => exact .cons (.adr q) (ih)
      · rw [gAt_ne hq] at e
        obtain ⟨k1, k2, k3, u, hu, t⟩ := R2.m q d e
        have k2 : upd E.H Dd _ q = none := k2
        rw [upd_ne (Ne.symm hq)] at k2
        exact ⟨k1, k2, fun z => k3 (own _ z), u, hu, t⟩
    have R5 : RelG X.K E F2 H' σ (keepNo a1 vs a2) ((Dd, .lst (qs.map DS.D.adr)) :: g2) := ⟨R4, M⟩
    have ek : keepNo a1 vs a2 = keepNo a1 vs (wipeA a1 vs) := by
      have kw := keep_wipe (a1 := a1) (a := a1) (vs := vs) (ws := vs) fun w hw => hw
      rcases ha2 with rfl | rfl
      · exact kw.symm
      · rfl
    rw [ek] at R5
    refine l.nx _ F2 H' _ _ (e1.trans s2) (R5.setDat (.adr Dd)) (hend _ Dd (qs.map fun q => (.non, q, [])) ⟨?_, ?_, ?_, ?_⟩ ?_)
    · rw [gAt_same, List.map_map]; rfl
    · intro e he
      obtain ⟨q, hq, rfl⟩ := List.mem_map.mp he
      show gAt _ q = _
      rw [gAt_ne (hdq q hq)]
      exact hkid q hq
    · rw [List.map_map]
      show (qs.map fun q => q).Nodup
      rw [List.map_id']
      exact hnd
    · intro e he
      obtain ⟨q, hq, rfl⟩ := List.mem_map.mp he
      exact Ne.symm (hdq q hq)
    · rw [List.map_map, List.eq_replicate_iff]
      refine ⟨by rw [List.length_map, hql], fun b hb => ?_⟩
      obtain ⟨q, _, rfl⟩ := List.mem_map.mp hb
      rfl
end
section
variable {X : Cx} {W : L2.St → XK} {e b o : Expr} {pos : Pos} {ta tb : TE} {w wb : WE}
/-- x = y[e], y a list of the memory that holds such -/
def wmSetAt (j i : Nat) (wb : WE) : WM := fun g D a => onAdr a[i]? fun root => wb a (fun r a1 => onI (con a1 r) fun k => onLs (gAt g root) fun xs => onO (atI xs k) fun d => match d with
  | .adr q => D.nx g (a1.set j (some ⟨.no, .adr q⟩))
  | _ => False) D.ex
theorem sm_setat {i j : Nat} {x : Str} {pos' sp : Pos} (hN : X.N.Nodup) (hj : X.N[j]? = some x) (hx : Loc X.env.scope x) (ho : PE X o (tVar i)) (hb : SE X W b tb wb) (hp : PlainIx b)
    (hs : swapsWith (.Subscript o b sp) (some (.Name x pos')) pos.line X.env = pure false := by rfl) (hf : X.fn x = true ∨ X.env.scope.names.lookup x = some .local := by first | exact .inl rfl | exact .inr rfl | assumption) :
    SM X W (.Assign [.Name x pos'] (.Subscript o b sp) pos) (tAsg (tOp (rIx X.K) (tVar i) tb) (gName j)) (wmSetAt j i wb) := by
  refine ⟨ps_set hN hj hx (pe_ix ix_seq ho hb.1 hp) hs hf, fun E F H σ a g D DA R hw l => ?_⟩
  obtain ⟨root, hr, hw⟩ := onAdr_iff.mp hw
  refine ⟨.ref root, slot_adr R.r hr, hb.2 (E.mem H g) F H σ a _ _ _ R.to hw (fun u r F' H' a' e R' rp q => ?_) (lx_mem R (l.ex σ))⟩
  obtain ⟨k, hk, q⟩ := onI_iff.mp q
  have R2 := R.of e R'
  obtain ⟨xs, hx, q⟩ := onLs_iff.mp q
  obtain ⟨d, hat, q⟩ := onO_iff.mp q
  split at q
  · rename_i c
    obtain ⟨_, _, _, ob, ho, tt⟩ := R2.m root _ hx
    obtain ⟨vs, rfl, rr⟩ := top_lst tt
    obtain ⟨v, hv, rv⟩ := rr.atI hat
    cases rv
    have hu : u = .int k := (rd_of R' rp hk).int
    exact .inl ⟨root, vs, k, .ref c, rfl, hu, .of ho, hv, l.nx _ F' _ _ _ e (R2.setDat (.adr c)) q⟩
  · exact q.elim
/-- y.extend(e), y a list of the memory -/
def wmExt (i : Nat) (w : WE) : WM := fun g D a => onAdr a[i]? fun q => onLs (gAt g q) fun _ => w a (fun r a1 => onLst (con a1 r) fun ys => onLs (gAt g q) fun xs => xs.length + ys.length ≤ sizeLine ∧ D.nx ((q, .lst (xs ++ ys)) :: g) a1) D.ex
theorem sm_ext {i : Nat} {apos cpos : Pos} (ho : PE X o (tVar i)) (h : SE X W e ta w) (hbase : attributeBase o "extend" X.env (eval o X.env) = eval o X.env := by rfl)
    (hfew : ((backTo cpos (starEach [e] X.env)).all (fun x => !x.1) && (backToKw cpos (keywordEach [] X.env)).all (fun x => x.1.isSome) && decide (([e] : List Expr).length + ([] : List Keyword).length + (if ([] : List Keyword).isEmpty then 0 else 1) < 30)) = true := by rfl)
    (hline : (apos.endLine == cpos.line) = true := by rfl) (hst : starEach [e] X.env = (false, eval e X.env) :: starEach [] X.env := by rfl) (hplain : (backTo cpos (starEach [] X.env)).any (·.1) = false := by rfl)
    (hs : swapsWith (.Call (.Attribute o "extend" apos) [e] [] cpos) none pos.line X.env = pure false := by rfl) :
    SM X W (.Expr (.Call (.Attribute o "extend" apos) [e] [] cpos) pos) (tDrop (tBM X.K "list" rExtend (tVar i) (tCons ta tNil))) (wmExt i w) := by
  refine ⟨ps_expr (pe_bm PySem.F.plainAttrs_list PySem.F.slot_list_extend PySem.F.type_list_extend mt_extend ho (pa_cons h.1 pa_nil hst) hbase hfew hline hst hplain) hs, fun E F H σ a g D DA R hw l => ?_⟩
  obtain ⟨q, ha, hw⟩ := onAdr_iff.mp hw
  obtain ⟨xs0, hx0, hw⟩ := onLs_iff.mp hw
  obtain ⟨_, _, _, o0, ho0, t0⟩ := R.m q _ hx0
  obtain ⟨vs0, rfl, _⟩ := top_lst t0
  refine ⟨.ref q, slot_adr R.r ha, .inl ⟨rfl, vs0, .of ho0⟩, h.2 (E.mem H g) F H σ a _ _ _ R.to hw (fun u r F' H' a' e R' rp hq => ?_) (lx_mem R (l.ex σ))⟩
  obtain ⟨ys, c, hq⟩ := onLst_iff.mp hq
  obtain ⟨xs, hx, hz, hk⟩ := onLs_iff.mp hq
  obtain ⟨b, us, rfl, hb, rb⟩ := (rd_of R' rp c).lst R'.ext
  have R2 := R.of e R'
  obtain ⟨_, _, _, o2, ho2, t2⟩ := R2.m q _ hx
  obtain ⟨vs, rfl, r2⟩ := top_lst t2
  exact ⟨q, b, vs, us, rfl, rfl, ho2, hb, by rw [r2.length, rb.length]; exact hz, l.nx _ F' _ _ _ e (R2.writeM hx (.lst (r2.append rb))) hk⟩
/-- from here on what slot i owns is data -/
def wmFzS (i : Nat) (w : WM) : WM := fun g D a => fz (.slot i) a fun _ a' => w g D a'
theorem sms_fzS (i : Nat) {st : List Stmt} {t : TS} {w : WM} (h : SMs X W st t w) : SMs X W st t (wmFzS i w) := by
  refine ⟨h.1, fun E F H σ a g D DA R hw l => ?_⟩
  have hw : fz (.slot i) a fun _ a' => w g DA a' := hw
  simp only [fz] at hw
  split at hw
  · exact h.2 E F H σ _ g D DA R hw l
  · rename_i c e
    obtain ⟨F2, s, R2, _⟩ := R.to.giveUp e
    exact h.2 E F2 H σ _ g D DA (R.of s R2) hw (l.to s)
  · exact hw.elim
end
end DS

namespace DS
open PySem PySem.Spec PyProof.Rows L2
/-! ### int of a text -/
section
variable {K : PySem.W.Frag}
def dIntS : DCall := fun ds k => match ds with
  | [.str z] => ∃ n, PySem.intText? z = some n ∧ z.length ≤ 640 ∧ k (.dat (.int n))
  | _ => False
theorem dIntS_ok : CallS K (fun xs H Q => ∃ a n, xs = [.str a] ∧ PySem.intText? a = some n ∧ a.length ≤ 640 ∧ Q (.int n) H) dIntS := by
  intro E F H σ a vs ds Q k R h ho l
  unfold dIntS at ho
  split at ho
  · obtain ⟨n, h1, h2, hk⟩ := ho
    cases h with
    | cons h t =>
      cases t
      obtain rfl := h.str
      exact ⟨_, n, rfl, h1, h2, l _ (.dat _) F H (Same.refl F) R (Rep.int _) hk⟩
  · exact ho.elim
end
/-! ### a def of one return: a + x.replace(y, z) + b -/
section
variable {P : Program} {w : World} {K : PySem.W.Frag} {mg : Str → Option Value} {base : Heap}
def quoteSpec (a b y z : Str) : Spec := fun as Q _ => ∃ t : Str, as = [⟨.no, .str t⟩] ∧ t.length ≤ 100000 ∧ Q ⟨.no, .str (a ++ Txt.replace t y z ++ b)⟩ as
theorem ok_quote {x qual : Str} {st : Stmt} {f : Addr} {fd : FuncData} {k : Nat} {a b y z : Str} {ja jb j1 j2 : Nat} {ca cb c1 c2 pn ap cp pi po ps : Pos} (F : Fun K x qual st f fd) (S : FnScope ["_law_text_here"] ["_law_text_here"] (defScope st))
    (hnc : ∀ y ∈ (defScope st).names, y.2 ≠ .cell)
    (hst : defBody st = [.Return (some (.BinOp (.BinOp (.Constant (.str a) ja ca) .Add (.Call (.Attribute (.Name "_law_text_here" pn) "replace" ap) [.Constant (.str y) j1 c1, .Constant (.str z) j2 c2] [] cp) pi) .Add (.Constant (.str b) jb cb) po)) ps])
    (hyz : (y == z) = false) (hline : (ap.endLine == cp.line) = true) (ha : a.length ≤ 10) (hb : b.length ≤ 10) (hz : z.length ≤ 10)
    (hbase : ∀ env : Env, attributeBase (.Name "_law_text_here" pn) "replace" env (eval (.Name "_law_text_here" pn) env) = eval (.Name "_law_text_here" pn) env) : FnOk P w K mg base CX0 (k + 1) f fd ["_law_text_here"] (spOf K (quoteSpec a b y z)) := by
  obtain ⟨oc, od, kV, doc, pm, an, cdv, ct, osl, rfl, lk, hcd⟩ := F.ex
  refine fn_ofT lk hcd S hnc (by simp) (fun vs H Q E ⟨F0, as, Q0, Qe0, A, h, _⟩ => ?_) (fun A outer s H vs Q E hr h => ?_)
  · obtain ⟨_, rfl, _⟩ := h
    exact A.len
  obtain ⟨F0, as, Q0, Qe0, AO, hs, hq, hx⟩ := h
  obtain ⟨t, rfl, ht, hqs⟩ := hs
  have hvis : Vis (defScope st) "_law_text_here" := by
    rcases S.par "_law_text_here" (List.mem_singleton.mpr rfl) with q | q
    · exact .inl q
    · exact absurd rfl (hnc _ (PySem.mem_of_lookup q))
  rw [hst]
  refine ⟨_, CwR.psst_one (CwR.pst_ret (CwR.pet_op op_add_str (CwR.pet_op op_add_str (CwR.PET.of pe_str) (CwR.pet_replC (pv 0 (hv := hvis)) hyz (by rfl) (hbase _) hline)) (CwR.PET.of pe_str))), ?_⟩
  have R := entry_rel AO (N := ["_law_text_here"]) (Nat.le_refl _)
  obtain ⟨v, hv, rv⟩ := R.sl 0 ⟨.no, .str t⟩ rfl
  cases rv
  have hrl := TK.replace_len t y z
  have h1 : (t.length + 1) * z.length ≤ 100001 * 10 := Nat.mul_le_mul (by omega) hz
  have hl1 : (a ++ Txt.replace t y z).length = a.length + (Txt.replace t y z).length := Str.length_append _ _
  refine ⟨_, hv, t, rfl, by omega, _, _, rfl, rfl, by rw [sizeLine_eq]; omega, _, _, rfl, rfl, by rw [sizeLine_eq, hl1]; omega, ?_⟩
  exact hq _ _ hqs _ F0 H (post_of AO R rfl) (Rep.str _)
end
/-! ### bodies that begin with a token out: replace of written texts -/
section
variable {X : Cx} {W : L2.St → XK} {st : Stmt} {rest s1 s2 : List Stmt} {t u : TS} {w1 w2 : WS} {c e f o : Expr} {pos p : Pos} {te tf ta : TE} {ua : TT} {we wf wo : WE} {wt : WT}
def SET (X : Cx) (W : L2.St → XK) (e : Expr) (t : TE) (w : WE) : Prop := PET X e t ∧ ∀ E F H σ a Q q qe, Rel X.K E F H σ a → w a q qe → Ln X.K E F σ q Q → Lx X.K E F σ qe (W σ) → t σ H Q
def SST (X : Cx) (W : L2.St → XK) (st : Stmt) (t : TS) (w : WS) : Prop := PST X st t ∧ ∀ E F H σ a D DA, Rel X.K E F H σ a → w DA a → Lk X.K E F D DA W → t D σ H
def SSsT (X : Cx) (W : L2.St → XK) (st : List Stmt) (t : TS) (w : WS) : Prop := PSsT X st t ∧ ∀ E F H σ a D DA, Rel X.K E F H σ a → w DA a → Lk X.K E F D DA W → t D σ H
theorem set_of (h : SE X W e te we) : SET X W e te we := ⟨CwR.PET.of h.1, h.2⟩
theorem sst_of (h : SS X W st t w1) : SST X W st t w1 := ⟨PST.of h.1, h.2⟩
theorem ssst_of (h : SSs X W rest t w1) : SSsT X W rest t w1 := ⟨PSsT.of h.1, h.2⟩
theorem ssst_nil : SSsT X W [] tNext wNext := ssst_of sss_nil
theorem ssst_cons (h1 : SST X W st t w1) (h2 : SSsT X W rest u w2) : SSsT X W (st :: rest) (tSeq t u) (wSeq w1 w2) := by
  refine ⟨psst_cons h1.1 h2.1, fun E F H σ a D DA R h l => h1.2 E F H σ a _ _ R h ⟨fun σ' F' H' a' e R' q => ?_, l.bk, l.ct, l.rt, l.ex⟩⟩
  exact h2.2 E F' H' σ' a' D DA R' q (l.to e)
theorem ssst_one (h1 : SST X W st t w1) : SSsT X W [st] t w1 := ⟨CwR.psst_one h1.1, h1.2⟩
theorem sst_if (hc : ST X W c ua wt) (ha : SSsT X W s1 t w1) (hb : SSsT X W s2 u w2) : SST X W (.If c s1 s2 pos) (tIfS ua t u) (wIf wt w1 w2) := by
  refine ⟨CwR.pst_if hc.1 ha.1 hb.1, fun E F H σ a D DA R hw l => hc.2 E F H σ a _ _ _ R hw (fun k F' H' a' e R' q => ?_) (l.ex σ)⟩
  cases k with
  | true => exact ha.2 E F' H' σ a' D DA R' (br_tt q rfl) (l.to e)
  | false => exact hb.2 E F' H' σ a' D DA R' (br_ff q rfl) (l.to e)
theorem set_op {ob : Operator} {r : R2} {op : D → D → (Res → Prop) → Prop} (ho : OpR X (binaryOp ob) r) (hs : OpS X.K r op) (h1 : SET X W e te we) (h2 : SET X W f tf wf) : SET X W (.BinOp e ob f pos) (tOp r te tf) (wBin op we wf) :=
  ⟨CwR.pet_op ho h1.1 h2.1, bin_ok hs h1.2 h2.2⟩
def wReplC (w : WE) (y z : Str) : WE := fun a q qe => w a (fun r a1 => onO (con a1 r) fun d => match d with
  | .str x => x.length + (x.length + 1) * z.length ≤ 16777216 ∧ q (.dat (.str (Txt.replace x y z))) a1
  | _ => False) qe
theorem set_repl {y z : Str} {j k : Nat} {c0 c1 apos : Pos} (h : SE X W o te we) (hyz : (y == z) = false := by decide)
    (hst : starEach [.Constant (.str y) j c0, .Constant (.str z) k c1] X.env = [(false, eval (.Constant (.str y) j c0) X.env), (false, eval (.Constant (.str z) k c1) X.env)] := by rfl)
    (hbase : attributeBase o "replace" X.env (eval o X.env) = eval o X.env := by rfl) (hline : (apos.endLine == pos.line) = true := by rfl) :
    SET X W (.Call (.Attribute o "replace" apos) [.Constant (.str y) j c0, .Constant (.str z) k c1] [] pos) (CwR.tReplC te y z) (wReplC we y z) := by
  refine ⟨CwR.pet_replC h.1 hyz hst hbase hline, fun E F H σ a Q q qe R hw l lx => h.2 E F H σ a _ _ _ R hw (fun v r F' H' a' e R' rp hq => ?_) lx⟩
  obtain ⟨d, hd, hq⟩ := onO_iff.mp hq
  split at hq
  · obtain rfl := (rd_of R' rp hd).str
    exact ⟨_, rfl, hq.1, l _ (.dat _) F' H' a' e R' (Rep.str _) hq.2⟩
  · exact hq.elim
theorem sst_set {i : Nat} {x : Str} {pos' : Pos} (hN : X.N.Nodup) (hi : X.N[i]? = some x) (hx : Loc X.env.scope x) (h : SET X W e te we) (hs : swapsWith e (some (.Name x pos')) pos.line X.env = pure false := by rfl) (hf : X.fn x = true ∨ X.env.scope.names.lookup x = some .local := by first | exact .inl rfl | exact .inr rfl | assumption) :
    SST X W (.Assign [.Name x pos'] e pos) (tAsg te (gName i)) (wSet i we) := by
  refine ⟨fun pins s σ H D h0 I hq => ?_, fun E F H σ a D DA R hw l => h.2 E F H σ a _ _ _ R hw (fun v r F' H' a' e R' rp q => ?_) (l.ex σ)⟩
  · refine wpAny_Assign_Name (thn (h.1 pins s σ H _ h0 I hq) fun v s1 ⟨y, H1, I1, r1, q1⟩ => ?_) hs
    exact store_ok I1 hN hi hx r1 (fun s2 I2 => ⟨_, H1, I2, q1⟩) hf
  · obtain ⟨F2, a2, s, R2, hk⟩ := sto_ok R' rp q
    exact l.nx _ F2 H' a2 (e.trans s) R2 hk
theorem PSsT.nox {body : List Stmt} (h : PSsT X.nox body t) : PSsT X body t := fun pins s σ H D h0 I hw =>
  wpAny_mono (h pins s σ H D h0 (I.wish _) hw) (fun _ _ q => q.unwish) fun _ _ z => False.elim z
end
section
variable {P : Program} {w : World} {K : PySem.W.Frag} {mg : Str → Option Value} {base : Heap}
theorem ok_defT {x qual : Str} {st : Stmt} {f : Addr} {fd : FuncData} {N ps : List Str} {k : Nat} {spec : Spec} {wb : WS} (F : Fun K x qual st f fd) (S : FnScope N ps (defScope st)) (har : ∀ as Q Qe, spec as Q Qe → as.length = ps.length)
    (hN : ps.length ≤ N.length) (hnc : ∀ y ∈ (defScope st).names, y.2 ≠ .cell) (hps : 1 ≤ ps.length)
    (hbody : ∀ (cdv : Value) (A : Around) (outer : List Env) (s : Shared) (H : Hp) (E : XK), Room k (A.deeper (envOfC qual (defScope st) s.heap.objs.size f cdv)) →
      ∃ t, SSsT (cxOf CX0 P w K mg base N qual (defScope st) f cdv A outer s H E).nox W0 (defBody st) t wb)
    (pure : ∀ as Q Qe, spec as Q Qe → wb (ends0 as Q) (initA N.length as)) : FnOk P w K mg base CX0 (k + 1) f fd ps (spOf K spec) := by
  obtain ⟨oc, od, kV, doc, pm, an, cdv, ct, osl, rfl, lk, hcd⟩ := F.ex
  refine fn_ofT lk hcd S hnc hps (fun vs H Q E ⟨F0, as, Q0, Qe0, A, h, _⟩ => A.len.trans (har as _ _ h)) (fun A outer s H vs Q E hr h => ?_)
  obtain ⟨F0, as, Q0, Qe0, AO, hs, hq, hx⟩ := h
  obtain ⟨t, hb⟩ := hbody cdv A outer s H E hr
  refine ⟨t, PSsT.nox hb.1, hb.2 ⟨F0, H, LentAt vs as, vs⟩ F0 H _ _ _ _ (entry_rel AO (by rw [har as _ _ hs]; exact hN)) (pure as Q0 Qe0 hs) ⟨?_, ?_, ?_, ?_, ?_⟩⟩
  · intro σ F' H' a e R h
    obtain ⟨as', ho, h⟩ := onO_iff.mp h
    exact hq _ as' h .non F' H' (post_of AO R ho) Rep.non
  · rintro σ F' H' a e R h
    exact h
  · rintro σ F' H' a e R h
    exact h
  · intro σ F' H' a v r e R rr h
    obtain ⟨as', ho, h⟩ := onO_iff.mp h
    exact hq r as' h v F' H' (post_of AO R ho) rr
  · rintro σ x a cls dx F' H' e R xr h
    exact h
end
end DS

namespace DS
open PySem PySem.Spec PyProof.Rows L2
/-! ### x = {k: [] for y in ys}, all remembered -/
section
variable {X : Cx} {W : L2.St → XK} {pos : Pos}
theorem putD_last {κ α : Type} [DecidableEq κ] {kvs : List (κ × α)} {k : κ} {v : α} (h : k ∉ kvs.map (·.1)) : putD kvs k v = kvs ++ [(k, v)] := by
  unfold putD
  rw [if_neg]
  intro z
  obtain ⟨e, he, hk⟩ := List.any_eq_true.mp z
  exact h (List.mem_map.mpr ⟨e, he, of_decide_eq_true hk⟩)
def wmDcNL (j : Nat) (wi : WI) (vs : List Nat) (wg : WG) (wk : WE) : WM := fun g D a => wi a (fun items a1 => items.length < sizeLine ∧ ∃ ks : List L2.Key, ks.length = items.length ∧ ks.Nodup ∧
  (∀ (i : Nat) (d : DS.D), items[i]? = some d → wg d (wipeA a1 vs) fun a3 => wk a3 (fun r a4 => fz r a4 fun y a5 => keyD y = ks[i]? ∧ wipeA a5 vs = wipeA a1 vs) (fun _ _ => False)) ∧
  ∀ g2 p es, TabG DS.D.dK g2 p es → tabOf es = ks.map (fun k => (k, [])) → D.nx g2 ((keepNo a1 vs (wipeA a1 vs)).set j (some ⟨.no, .adr p⟩))) D.ex
theorem dcNL_sem {i : Nat} {tg iter : Expr} {own : List (Str × Nat)} {ti : TI} {wi : WI} {wg : WG} {wk : WE} {sl : List Nat} (hi : SI X W tg iter ti wi) (hsl : ∀ j ∈ sl, j ∈ own.map (·.2)) :
    ∀ E F H σ a g D DA, RelG X.K E F H σ a g → wmDcNL i wi (own.map (·.2)) wg wk g DA a → LkG X.K E F D DA W → (tAsg (tDG (.dK []) ti (gG X.K wg sl) tYes (tE X.K W0 wk) (tLst tNil) (own.map (·.2))) (gName i)) D σ H := by
  intro E F H σ a g D DA R hw l
  generalize own.map (·.2) = vs at *
  refine hi.2 (E.mem H g) F H σ a _ _ _ R.to hw (fun J items F1 H1 a1 e1 R1 it hq => ?_) (lx_mem R (l.ex σ))
  obtain ⟨hz, ks, hkl, hknd, hbind, hend⟩ := hq
  have R1 := R.of e1 R1
  intro Dd hD
  obtain ⟨f1, f2, f3⟩ := R1.r.fresh hD
  have hL : ¬ E.L Dd := fun z => R1.r.lt Dd z f2
  have hF0 : E.F Dd = none := R1.r.f0.free f1
  have gD := gAt_free R1 hD
  have R1' := R1.lay (.dK []) hD
  refine ⟨fun i m H' => m = items.length - i ∧ i ≤ items.length ∧ ∃ F2 a2 o qs g2, Same F1 F2 ∧ RelG X.K (E.side Dd o) F2 H' σ a2 g2 ∧ Top X.K F2 o (.dK ((ks.take i).zip (qs.map DS.D.adr))) ∧ (a2 = a1 ∨ a2 = wipeA a1 vs) ∧ qs.length = i ∧ qs.Nodup ∧ ∀ q ∈ qs, gAt g2 q = some (.lst []),
    ⟨_, rfl, Nat.zero_le _, F1, a1, .dK [], [], g, Same.refl F1, ⟨R1'.r.toSide f1 f2 f3 upd_same, fun q d e => ?_⟩, .dK .nil, .inl rfl, rfl, List.nodup_nil, fun q h => by cases h⟩, ?_⟩
  · obtain ⟨k1, k2, k3, u, hu, t⟩ := R1'.m q d e
    have hne : q ≠ Dd := fun z => by rw [z, gD] at e; cases e
    exact ⟨k1, by show upd E.H Dd _ q = none; rw [upd_ne hne]; exact k2, k3, u, hu, t⟩
  rintro i m H' ⟨rfl, hi', F2, a2, o, qs, g2, s2, R2, top, ha2, hql, hnd, hkid⟩
  have ew : wipeA a2 vs = wipeA a1 vs := by
    rcases ha2 with rfl | rfl
    · rfl
    · exact wipe_wipe fun w hw => hw
  by_cases hlt : i < items.length
  · refine .inr ⟨it.go i _ σ a2 F2 H' s2 R2.r hlt, fun H3 => ∃ F3 a3 o qs g3, Same F1 F3 ∧ RelG X.K (E.side Dd o) F3 H3 σ a3 g3 ∧ Top X.K F3 o (.dK ((ks.take (i + 1)).zip (qs.map DS.D.adr))) ∧ (a3 = a1 ∨ a3 = wipeA a1 vs) ∧ qs.length = i + 1 ∧ qs.Nodup ∧ ∀ q ∈ qs, gAt g3 q = some (.lst []),
      fun H3 ⟨F3, a3, o, qs, g3, s3, R3, h3⟩ => ⟨items.length - (i + 1), by omega, rfl, hlt, F3, a3, o, qs, g3, s3, R3, h3⟩, fun x H3 y => ?_⟩
    obtain ⟨F3, d, s3, R3, hd, rp⟩ := it.yld i ((E.side Dd o).mem H' g2) σ a2 F2 H' x H3 s2 R2.to hlt y
    have hb := hbind i d hd
    rw [← ew] at hb
    refine ⟨_, F3, wipeA a2 vs, d, _, R3.wipe vs, rp, hb, fun σ4 a4 o4 R4 hq4 => ⟨wipe_only o4 hsl, ?_⟩⟩
    unfold tYes
    dsimp only
    rw [if_pos rfl]
    refine ⟨_, F3, a4, _, _, R4, hq4, fun vy rk F6 H6 a6 e6 R6 rp6 q6 => ?_, fun x a c dx F5 H5 _ _ _ z => z⟩
    obtain ⟨F7, a7, yd, s7, R7, rp7, hkey, hwp⟩ := fz_ok R6 rp6 q6
    have R5 : Rel X.K ((E.side Dd o).mem H' g2) F7 H6 σ (wipeA a7 vs) := by
      refine R7.less (by rw [wipeA_length, R7.len, o4.1, L2.wipe_length]) fun j av e => ?_
      obtain ⟨h1, h2⟩ := wipeA_some e
      refine ⟨h1, ?_⟩
      rw [o4.2 j fun z => h2 (hsl j z), L2.wipe_out h2]
    rw [hwp, ew] at R5
    have sA : Same F2 F7 := (s3.trans e6).trans s7
    have R8 := R2.of sA R5
    refine ⟨by simp, fun q hq => ?_⟩
    have R9 := R8.layM hq (Top.lst (K := X.K) (F := F7) (vs := []) (ds := []) .nil)
    have hgq := gAt_free R8 hq
    obtain ⟨_, _, _, g3⟩ := R9.r.ofSide f2 hL hF0 (top_nt top)
    obtain ⟨key, hkey2⟩ : ∃ key, ks[i]? = some key := ⟨_, List.getElem?_eq_getElem (by omega)⟩
    rw [hkey2] at hkey
    have hnk : key ∉ ((ks.take i).zip (qs.map DS.D.adr)).map (·.1) := fun z => by
      obtain ⟨e, he, hek⟩ := List.mem_map.mp z
      obtain ⟨x1, x2⟩ := e
      have hm := (List.of_mem_zip he).1
      obtain ⟨n, hn⟩ := List.mem_iff_getElem?.mp hm
      have hn2 := (List.getElem?_eq_some_iff.mp hn).1
      rw [List.length_take] at hn2
      rw [List.getElem?_take_of_lt (by omega)] at hn
      have hek : x1 = key := hek
      rw [hek, ← hkey2] at hn
      have := (List.getElem?_inj (by omega) hknd).mp hn
      omega
    have hzl : ((ks.take i).zip (qs.map DS.D.adr)).length = i := by rw [List.length_zip, List.length_take, List.length_map]; omega
    have put : putS (.dK ((ks.take i).zip (qs.map DS.D.adr))) yd (.adr q) fun acc' => acc' = .dK ((ks.take (i + 1)).zip ((qs ++ [q]).map DS.D.adr)) := by
      unfold putS
      refine onO_of hkey ⟨by rw [hzl]; omega, ?_⟩
      rw [putD_last hnk, List.take_add_one, hkey2, Option.toList_some, List.map_append, List.zip_append (by rw [List.length_take, List.length_map]; omega)]
      rfl
    obtain ⟨o', acc', dput, t', rfl⟩ := dput_of R9.r.ext g3 (top.mono sA) (rp7.mono (Same.refl F7)) (Rep.adr q) put
    refine ⟨_, dput, F7, _, o', qs ++ [q], (q, DS.D.lst []) :: g2, s2.trans sA, ⟨R9.r.sideSet f2 hL hF0 (top_nt top), R9.m.sideSet⟩, t', .inr rfl, by rw [List.length_append, hql]; rfl, ?_, ?_⟩
    · rw [List.nodup_append]
      refine ⟨hnd, by simp, fun b hb c hc z => ?_⟩
      rw [List.mem_singleton.mp hc] at z
      have := hkid b hb
      rw [z, hgq] at this
      cases this
    · intro b hb
      rcases List.mem_append.mp hb with z | z
      · rw [gAt_ne (fun y => by have := hkid b z; rw [← y, hgq] at this; cases this)]
        exact hkid b z
      · rw [List.mem_singleton.mp z]
        exact gAt_same
  · have e : i = items.length := by omega
    subst e
    rw [List.take_of_length_le (by omega)] at top
    obtain ⟨R3, g1, g2', g3⟩ := R2.r.ofSide f2 hL hF0 (top_nt top)
    refine .inl ⟨it.stop _ σ a2 F2 H' s2 R2.r, ?_⟩
    have R4 := Rel.keepNo R1.r s2 R3 vs
    have hdq : ∀ q ∈ qs, Dd ≠ q := fun q hq z => by
      obtain ⟨_, k2, _⟩ := R2.m q _ (hkid q hq)
      have k2 : upd E.H Dd _ q = none := k2
      rw [← z, upd_same] at k2
      cases k2
    have M : MemOk X.K E F2 H' σ (keepNo a1 vs a2) ((Dd, .dK (ks.zip (qs.map DS.D.adr))) :: g2) := by
      have own : ∀ q, Owned σ (keepNo a1 vs a2) q → Owned σ a2 q := fun q ⟨j, av, h1, h2, h3⟩ => ⟨j, av, keepNo_own vs j av h1 h2, h2, h3⟩
      intro q d e
      by_cases hq : Dd = q
      · subst hq
        rw [gAt_same] at e
        cases e
        exact ⟨g1, f2, fun z => g2' (own _ z), _, g3, top⟩
      · rw [gAt_ne hq] at e
        obtain ⟨k1, k2, k3, u, hu, t⟩ := R2.m q d e
        have k2 : upd E.H Dd _ q = none := k2
        rw [upd_ne (Ne.symm hq)] at k2
        exact ⟨k1, k2, fun z => k3 (own _ z), u, hu, t⟩
    have R5 : RelG X.K E F2 H' σ (keepNo a1 vs a2) ((Dd, .dK (ks.zip (qs.map DS.D.adr))) :: g2) := ⟨R4, M⟩
    have ek : keepNo a1 vs a2 = keepNo a1 vs (wipeA a1 vs) := by
      have kw := keep_wipe (a1 := a1) (a := a1) (vs := vs) (ws := vs) fun w hw => hw
      rcases ha2 with rfl | rfl
      · exact kw.symm
      · rfl
    rw [ek] at R5
    have hlq : ks.length = qs.length := by omega
    refine l.nx _ F2 H' _ _ (e1.trans s2) (R5.setDat (.adr Dd)) (hend _ Dd ((ks.zip qs).map fun e => (e.1, e.2, [])) ⟨?_, ?_, ?_, ?_, ?_⟩ ?_)
    · rw [gAt_same, List.map_map]
      congr 2
      rw [List.zip_map_right]
      rfl
    · intro e he
      obtain ⟨⟨k, q⟩, hq, rfl⟩ := List.mem_map.mp he
      have hq := (List.of_mem_zip hq).2
      show gAt _ q = _
      rw [gAt_ne (hdq q hq)]
      exact hkid q hq
    · rw [List.map_map]
      show ((ks.zip qs).map fun e => e.2).Nodup
      rw [show ((ks.zip qs).map fun e => e.2) = qs from List.map_snd_zip (by omega)]
      exact hnd
    · intro e he
      obtain ⟨⟨k, q⟩, hq, rfl⟩ := List.mem_map.mp he
      exact Ne.symm (hdq q (List.of_mem_zip hq).2)
    · rw [List.map_map]
      show ((ks.zip qs).map fun e => e.1).Nodup
      rw [show ((ks.zip qs).map fun e => e.1) = ks from List.map_fst_zip (by omega)]
      exact hknd
    · unfold tabOf
      rw [List.map_map]
      show ((ks.zip qs).map fun e => (e.1, ([] : List DS.D))) = _
      have : ((ks.zip qs).map fun e => e.1).map (fun k => (k, ([] : List DS.D))) = ks.map fun k => (k, []) := by
        rw [show ((ks.zip qs).map fun e => e.1) = ks from List.map_fst_zip (by omega)]
      rw [← this, List.map_map]
      rfl
theorem sm_setDcNL {i : Nat} {y : Str} {py p3 : Pos} {kx tg iter : Expr} {sc : Scope} {own : List (Str × Nat)} {pos spos : Pos} {ti : TI} {wi : WI} {wg : WG} {wk : WE} {sl : List Nat} (hu : X.A.units < cLine) (hc : X.calm = true) (hN : X.N.Nodup)
    (hy : X.N[i]? = some y) (hyl : X.env.scope.names.lookup y = some .local) (hsw : swapsWith (.DictComp kx (.List [] p3) [⟨tg, iter, [], 0⟩] sc pos) (some (.Name y py)) spos.line X.env = pure true) (hi : SI X W tg iter ti wi) (ok : BlkOk X.N X.env.scope sc own)
    (hg : InBlk X sc fun Y => ∃ g, SG Y tg g wg sl) (hsl : ∀ j ∈ sl, j ∈ own.map (·.2)) (hk : InBlk X sc fun Y => ∃ t, SE Y W0 kx t wk)
    (hs : ∀ x, foldedSetIterable iter X.env x = pure x := by intro _; rfl) :
    SM X W (.Assign [.Name y py] (.DictComp kx (.List [] p3) [⟨tg, iter, [], 0⟩] sc pos) spos) (tAsg (tDG (.dK []) ti (gG X.K wg sl) tYes (tE X.K W0 wk) (tLst tNil) (own.map (·.2))) (gName i)) (wmDcNL i wi (own.map (·.2)) wg wk) := by
  exact ⟨ps_setDg DEmp.k hu hc hN hy hyl hsw hi.1 ok (fun s H C cl fp => (hg s H C cl fp).elim fun _ h => h.own) (fun s H C cl fp => pts_nil) (fun s H C cl fp => (hk s H C cl fp).elim fun _ h => h.own) (fun s H C cl fp => pe_lst pa_nil) hs, dcNL_sem hi hsl⟩
/-- .. for a name that an inner block sees -/
theorem sm_setDcNLc {i : Nat} {y : Str} {py p3 : Pos} {kx tg iter : Expr} {sc : Scope} {own : List (Str × Nat)} {pos spos : Pos} {ti : TI} {wi : WI} {wg : WG} {wk : WE} {sl : List Nat} (hu : X.A.units < cLine) (hc : X.calm = true) (hN : X.N.Nodup)
    (hy : X.N[i]? = some y) (hx : Loc X.env.scope y) (hsw : swapsWith (.DictComp kx (.List [] p3) [⟨tg, iter, [], 0⟩] sc pos) (some (.Name y py)) spos.line X.env = pure false) (hi : SI X W tg iter ti wi) (ok : BlkOk X.N X.env.scope sc own)
    (hg : InBlk X sc fun Y => ∃ g, SG Y tg g wg sl) (hsl : ∀ j ∈ sl, j ∈ own.map (·.2)) (hk : InBlk X sc fun Y => ∃ t, SE Y W0 kx t wk)
    (hs : ∀ x, foldedSetIterable iter X.env x = pure x := by intro _; rfl) (hf : X.fn y = true ∨ X.env.scope.names.lookup y = some .local := by first | exact .inl rfl | exact .inr rfl | assumption) :
    SM X W (.Assign [.Name y py] (.DictComp kx (.List [] p3) [⟨tg, iter, [], 0⟩] sc pos) spos) (tAsg (tDG (.dK []) ti (gG X.K wg sl) tYes (tE X.K W0 wk) (tLst tNil) (own.map (·.2))) (gName i)) (wmDcNL i wi (own.map (·.2)) wg wk) := by
  exact ⟨ps_set hN hy hx (pe_dg DEmp.k hu hc hN hi.1 ok (fun s H C cl fp => (hg s H C cl fp).elim fun _ h => h.own) (fun s H C cl fp => pts_nil) (fun s H C cl fp => (hk s H C cl fp).elim fun _ h => h.own) (fun s H C cl fp => pe_lst pa_nil) hs) hsw hf, dcNL_sem hi hsl⟩

end
/-! ### x[y] of a remembered dict -/
section
variable {X : Cx} {W : L2.St → XK} {e b : Expr} {pos : Pos} {ta tb : TE} {wr : WQ}
def wqKx (j : Nat) (wr : WQ) : WQ := fun g a f => wr g a fun d => match d with
  | .adr p => match a[j]? with
    | some (some ⟨.no, y⟩) => onO (gAt g p) fun c => match c with
      | .dK kvs => onO (keyD y) fun k => onO (valD kvs k) f
      | _ => False
    | _ => False
  | _ => False
theorem sq_kx {j : Nat} (hu : X.A.units + 1 < cLine) (h : SQ X e ta wr) (hb : PE X b (tVar j)) (hs : NoSl b) : SQ X (.Subscript e b pos) (tDGet ta (tVar j)) (wqKx j wr) := by
  refine ⟨pe_dget hu h.1 hb hs, fun E F H σ a g Q f R hw k => h.2 E F H σ a g _ _ R hw fun v d rp hd => ?_⟩
  split at hd
  · rename_i p
    cases rp
    split at hd
    · rename_i y hy
      obtain ⟨u, hu2, ru⟩ := R.r.sl j _ hy
      obtain ⟨c, hc, hd⟩ := onO_iff.mp hd
      split at hd
      · rename_i kvs
        obtain ⟨key, hk, hd⟩ := onO_iff.mp hd
        obtain ⟨z, hz, hf⟩ := onO_iff.mp hd
        obtain ⟨_, _, _, o, ho, tt⟩ := R.m p _ hc
        cases tt with
        | dK r =>
          obtain rfl := key_rep ru hk
          obtain ⟨vv, h1, h2⟩ := (r.val key).1 z hz
          exact ⟨_, hu2, p, vv, rfl, by rw [← h1]; exact .k ho, k _ _ h2 hf⟩
      · exact hd.elim
    · exact hd.elim
  · exact hd.elim
/-- {x: c} -/
def wDLit1 (i : Nat) (c : Int) : WE := fun a q _ => match a[i]? with
  | some (some ⟨.no, d⟩) => onO (keyD d) fun k => q (.new (.dK [(k, .int c)])) a
  | _ => False
theorem se_dlit1 {i : Nat} {c : Int} {kx vx : Expr} (hk : PE X kx (tVar i)) (hv : PE X vx (tC (.int c))) : SE X W (.Dict [some kx] [vx] pos) (tDisp [(tVar i, tC (.int c))]) (wDLit1 i c) := by
  refine ⟨pe_disp (pps_cons hk hv pps_nil) rfl rfl (by simp) (by simp), fun E F H σ a Q q qe R hw l _ p hp => ?_⟩
  unfold wDLit1 at hw
  split at hw
  · rename_i d hd
    obtain ⟨k, hk, hq⟩ := onO_iff.mp hw
    obtain ⟨v, hv2, rv⟩ := R.sl i _ hd
    obtain rfl := key_rep rv hk
    obtain ⟨f1, f2, f3⟩ := R.fresh hp
    have eu : upd (upd H p (.dK [])) p (.dK (mergeK [] [(k, V.int c)])) = upd H p (.dK [(k, V.int c)]) := by
      funext b
      by_cases hb : b = p
      · rw [hb, upd_same, upd_same]
        rfl
      · rw [upd_ne hb, upd_ne hb, upd_ne hb]
    refine ⟨_, hv2, upd_same, [(k, V.int c)], rfl, by simp, ?_⟩
    rw [eu]
    exact l (.ref p) (.new (.dK [(k, .int c)])) F _ a (Same.refl F) (R.lay _ hp) ⟨p, rfl, f1, f2, ⟨_, upd_same, .dK (.cons (Rep.int _) .nil)⟩, f3⟩ hq
  · exact hw.elim
end
end DS

namespace DS
open PySem PySem.Spec PyProof.Rows L2
/-! ### a dict of the memory is a dict of one's own from here on (its lists are data) -/
theorem rel_same_new {K : PySem.W.Frag} {E : En} {F H : Hp} {σ : L2.St} {a : PSt} (R : Rel K E F H σ a) {i : Nat} {p : Addr} {d : D} (hv : σ[i]? = some (some (.ref p))) (hF : F p = none) (hE : E.H p = none) (t : TopAt K F H p d) (hn : ¬ Owned σ a p) : Rel K E F H σ (a.set i (some ⟨.own, d⟩)) := by
  have h := R.setNew (i := i) hF hE t hn
  have : σ.set i (some (.ref p)) = σ := by
    refine List.ext_getElem? fun j => ?_
    by_cases e : i = j
    · subst e
      have hi := (List.getElem?_eq_some_iff.mp hv).1
      rw [List.getElem?_set_self hi, hv]
    · rw [List.getElem?_set_ne e]
  rw [this] at h
  exact h
section
variable {X : Cx} {W : L2.St → XK} {st : List Stmt} {t : TS} {w : WM}
def wmFzKO (i : Nat) (w : WM) : WM := fun g DA a => onAdr a[i]? fun root => ∃ es : List (L2.Key × Addr × List D), TabG D.dK g root es ∧ w [] DA (a.set i (some ⟨.own, .dK ((tabOf es).map fun e => (e.1, .lst e.2))⟩))
theorem sms_fzKO (i : Nat) (h : SMs X W st t w) : SMs X W st t (wmFzKO i w) := by
  refine ⟨h.1, fun E F H σ a g D DA R hw l => ?_⟩
  obtain ⟨root, hr, es, hT, hk⟩ := onAdr_iff.mp hw
  obtain ⟨F1, g1, s1, R1, r1, hg⟩ := freezeKids es F g R hT.kid hT.nd
  have hrt : gAt g1 root = some (DS.D.dK (es.map fun e => (e.1, .adr e.2.1))) := by rw [hg root hT.nr]; exact hT.top
  obtain ⟨f1, f2, f3, o, ho, t⟩ := R1.m root _ hrt
  cases t with
  | dK r =>
    obtain rfl := reps_adr es _ r
    have rp : TopAt X.K F1 H root (.dK ((tabOf es).map fun e => (e.1, .lst e.2))) := by
      unfold tabOf
      rw [List.map_map]
      exact ⟨_, ho, .dK r1⟩
    exact h.2 E F1 H σ _ [] D DA ⟨rel_same_new R1.r (slot_adr R.r hr) f1 f2 rp f3, mem_nil⟩ hk (l.to s1)
end
end DS

namespace My
open PySem PySem.Spec PyProof.Rows L2 DS
/-! ### the law's own helpers: what each promises -/
def isBox (c : D) : Prop := ∃ (ds : List Int) (n : Nat), c = .lst [.lst (Ds ds), .int (n : Int)]
def sp_Lcell : DS.Spec := fun as Q _ => ∃ (o : Ow) (ns : List Int) (k : Int), as = [⟨o, .rol (Ds ns)⟩, ⟨.no, .int k⟩] ∧ 0 ≤ k ∧ Q ⟨.no, .int (ns.getD k.toNat 0)⟩ as
def sp_Ldigits : DS.Spec := fun as Q _ => ∃ (ns : List Int) (i j : Int), as = [⟨.no, .rol (Ds ns)⟩, ⟨.no, .int i⟩, ⟨.no, .int j⟩] ∧ 0 ≤ i ∧ i ≤ 1000 ∧ 0 ≤ j ∧ j ≤ 1000 ∧ ∀ ds : List Int, ds.length ≤ 60000 → Q ⟨.own, .lst (Ds ds)⟩ as
def sp_Ldraw : DS.Spec := fun as Q _ => ∃ (c : D) (m : Int), as = [⟨.lent, c⟩, ⟨.no, .int m⟩] ∧ isBox c ∧ 0 < m ∧ ∀ r c', 0 ≤ r → r < m → isBox c' → Q ⟨.no, .int r⟩ [⟨.lent, c'⟩, ⟨.no, .int m⟩]
def sp_Lsame : Nat → DS.Spec
  | 0 => fun _ _ _ => False
  | n + 1 => fun as Q _ => ∃ (o o' : Ow) (d : D), as = [⟨o, d⟩, ⟨o', d⟩] ∧ Pl n d ∧ Q ⟨.no, .bl true⟩ as
theorem har_Lcell : ∀ as Q Qe, sp_Lcell as Q Qe → as.length = 2 := by rintro _ _ _ ⟨_, _, _, rfl, _⟩; rfl
theorem har_Ldigits : ∀ as Q Qe, sp_Ldigits as Q Qe → as.length = 3 := by rintro _ _ _ ⟨_, _, _, rfl, _⟩; rfl
theorem har_Ldraw : ∀ as Q Qe, sp_Ldraw as Q Qe → as.length = 2 := by rintro _ _ _ ⟨_, _, rfl, _⟩; rfl
theorem har_Lsame : ∀ n as Q Qe, sp_Lsame n as Q Qe → as.length = 2
  | 0, _, _, _, h => h.elim
  | n + 1, _, _, _, ⟨_, _, _, e, _⟩ => by subst e; rfl
/-- texts by their signs -/
abbrev ms (w : List Nat) : Str := ⟨w.toArray⟩
def solid (x : Nat) : Prop := 33 ≤ x ∧ x < 127 ∧ x ≠ 37
def sp_Lsolid : DS.Spec := fun as Q _ => ∃ (c : D), as = [⟨.lent, c⟩] ∧ isBox c ∧ ∀ (x : Nat) c', solid x → isBox c' → Q ⟨.no, .str (ms [x])⟩ [⟨.lent, c'⟩]
def sp_Lword : DS.Spec := fun as Q _ => ∃ (c : D) (m : Int), as = [⟨.lent, c⟩, ⟨.no, .int m⟩] ∧ isBox c ∧ 0 ≤ m ∧ m ≤ 1000 ∧ ∀ (w : List Nat) c', (w.length : Int) = m → (∀ x ∈ w, solid x) → isBox c' → Q ⟨.no, .str (ms w)⟩ [⟨.lent, c'⟩, ⟨.no, .int m⟩]
theorem har_Lsolid : ∀ as Q Qe, sp_Lsolid as Q Qe → as.length = 1 := by rintro _ _ _ ⟨_, rfl, _⟩; rfl
theorem har_Lword : ∀ as Q Qe, sp_Lword as Q Qe → as.length = 2 := by rintro _ _ _ ⟨_, _, rfl, _⟩; rfl
abbrev Ln := List (List Nat)
def wD (w : List Nat) : D := .str (ms w)
def lnD (L : Ln) : D := .lst (L.map wD)
def tupL (L : Ln) : D := .tup (L.map wD)
def ky (L : Ln) : List L2.Key := L.map fun w => Sum.inr (ms w)
/-- each line once, in the order of the first ones -/
def dd : List Ln → List Ln → List Ln
  | acc, [] => acc
  | acc, l :: r => dd (if l ∈ acc then acc else acc ++ [l]) r
def okW (w : List Nat) : Prop := PyData.strOk (ms w) = true
def shN (p : Ln) (n : Nat) : Nat := (if (1 : Int) < (p.length : Int) - n + 1 then (p.length : Int) - n + 1 else 1).toNat
def shP (n : Nat) (p : Ln) : List Ln := (List.range (shN p n)).map fun k => (p.drop k).take n
def shA (n : Nat) (ps : List Ln) : List Ln := (ps.map (shP n)).flatten
def Pieces (ps : List Ln) : Prop := ps.length ≤ 10 ∧ ∀ p ∈ ps, p.length ≤ 100 ∧ ∀ w ∈ p, okW w
def sp_shingles : DS.Spec := fun as Q _ => ∃ (ps : List Ln) (n : Nat), as = [⟨.no, .lst (ps.map lnD)⟩, ⟨.no, .int n⟩] ∧ Pieces ps ∧ 1 ≤ n ∧ n ≤ 100 ∧ Q ⟨.own, .lst ((dd [] (shA n ps)).map tupL)⟩ as
def sp_Lshingles : DS.Spec := fun as Q _ => ∃ (ps : List Ln) (n : Nat), as = [⟨.no, .lst (ps.map lnD)⟩, ⟨.no, .int n⟩] ∧ Pieces ps ∧ 1 ≤ n ∧ n ≤ 100 ∧ Q ⟨.own, .lst ((dd [] (shA n ps)).map lnD)⟩ as
def Stock (st : List (List Nat)) : Prop := 0 < st.length ∧ st.length ≤ 10 ∧ ∀ w ∈ st, okW w
def sp_Lstock : DS.Spec := fun as Q _ => ∃ (c : D), as = [⟨.lent, c⟩, ⟨.no, .int 5⟩] ∧ isBox c ∧ ∀ st c', Stock st → isBox c' → Q ⟨.own, .lst (st.map wD)⟩ [⟨.lent, c'⟩, ⟨.no, .int 5⟩]
def sp_Lpiece : DS.Spec := fun as Q _ => ∃ (o : Ow) (c : D) (st : List (List Nat)), o = .lent ∧ as = [⟨.lent, c⟩, ⟨o, .lst (st.map wD)⟩] ∧ isBox c ∧ Stock st ∧ ∀ p c', p.length ≤ 50 → (∀ w ∈ p, okW w) → isBox c' → Q ⟨.own, lnD p⟩ [⟨.lent, c'⟩, ⟨o, .lst (st.map wD)⟩]
def sp_Llength : DS.Spec := fun as Q _ => ∃ (c : D), as = [⟨.lent, c⟩] ∧ isBox c ∧ ∀ (n : Nat) c', 1 ≤ n → n ≤ 100 → isBox c' → Q ⟨.no, .int n⟩ [⟨.lent, c'⟩]
/-- the shingles of a document, each once -/
abbrev shs (n : Nat) (ps : List Ln) : List Ln := dd [] (shA n ps)
/-- the shingles that two have in common -/
def com (n : Nat) (ps qs : List Ln) : Nat := ((shs n qs).filter fun L => decide (L ∈ shs n ps)).length
def tog (n : Nat) (ps qs : List Ln) : Int := (shs n ps).length + (shs n qs).length - com n ps qs
def sp_compare : DS.Spec := fun as Q _ => ∃ (ps qs : List Ln) (n : Nat) (p q : Int), as = [⟨.no, .lst (ps.map lnD)⟩, ⟨.no, .lst (qs.map lnD)⟩, ⟨.no, .int n⟩, ⟨.no, .int p⟩, ⟨.no, .int q⟩] ∧ Pieces ps ∧ Pieces qs ∧ 1 ≤ n ∧ n ≤ 100 ∧ 1 ≤ p ∧ p ≤ q ∧ q ≤ 1000 ∧
  Q ⟨.no, .tup [.bl (decide (p * tog n ps qs ≤ q * com n ps qs)), .int (com n ps qs), .int (tog n ps qs)]⟩ as
def sp_Lcompared : DS.Spec := fun as Q _ => ∃ (ps qs : List Ln) (n : Nat), as = [⟨.no, .lst (ps.map lnD)⟩, ⟨.no, .lst (qs.map lnD)⟩, ⟨.no, .int n⟩] ∧ Pieces ps ∧ Pieces qs ∧ 1 ≤ n ∧ n ≤ 100 ∧
  Q ⟨.no, .tup [.int (com n ps qs), .int (tog n ps qs)]⟩ as
def sp_Lshare : DS.Spec := fun as Q _ => ∃ (c : D), as = [⟨.lent, c⟩] ∧ isBox c ∧ ∀ (p q : Int) c', 1 ≤ p → p ≤ q → q ≤ 1000 → isBox c' → Q ⟨.no, .tup [.int p, .int q]⟩ [⟨.lent, c'⟩]
theorem har_compare : ∀ as Q Qe, sp_compare as Q Qe → as.length = 5 := by rintro _ _ _ ⟨_, _, _, _, _, rfl, _⟩; rfl
theorem har_Lcompared : ∀ as Q Qe, sp_Lcompared as Q Qe → as.length = 3 := by rintro _ _ _ ⟨_, _, _, rfl, _⟩; rfl
theorem har_Lshare : ∀ as Q Qe, sp_Lshare as Q Qe → as.length = 1 := by rintro _ _ _ ⟨_, rfl, _⟩; rfl
def sp_law : DS.Spec := lawSpec 63
theorem har_shingles : ∀ as Q Qe, sp_shingles as Q Qe → as.length = 2 := by rintro _ _ _ ⟨_, _, rfl, _⟩; rfl
theorem har_Lshingles : ∀ as Q Qe, sp_Lshingles as Q Qe → as.length = 2 := by rintro _ _ _ ⟨_, _, rfl, _⟩; rfl
theorem har_Lstock : ∀ as Q Qe, sp_Lstock as Q Qe → as.length = 2 := by rintro _ _ _ ⟨_, rfl, _⟩; rfl
theorem har_Lpiece : ∀ as Q Qe, sp_Lpiece as Q Qe → as.length = 2 := by rintro _ _ _ ⟨_, _, _, _, rfl, _⟩; rfl
theorem har_Llength : ∀ as Q Qe, sp_Llength as Q Qe → as.length = 1 := by rintro _ _ _ ⟨_, rfl, _⟩; rfl
theorem har_law : ∀ as Q Qe, sp_law as Q Qe → as.length = 1 := by rintro _ _ _ ⟨_, rfl, _⟩; rfl
/-! ### documents: ids and pieces -/
abbrev Doc := Int × List Ln
def docD (d : Doc) : D := .tup [.int d.1, .lst (d.2.map lnD)]
def Docs (ds : List Doc) : Prop := ds.length ≤ 8 ∧ (ds.map (·.1)).Pairwise (· < ·) ∧ ∀ d ∈ ds, Pieces d.2 ∧ d.2 ≠ []
def docAt (ds : List Doc) (k : Nat) : Doc := ds.getD k (0, [])
/-- the ids of the first i documents with the shingle L -/
def numsP (n : Nat) (ds : List Doc) (i : Nat) (L : Ln) : List Int := ((List.range i).filter fun k => decide (L ∈ shs n (docAt ds k).2)).map fun k => (docAt ds k).1
def ev (n : Nat) (ds : List Doc) (i : Nat) : List (Int × Int) := (List.range i).flatMap fun k => (shs n (docAt ds k).2).flatMap fun L => (numsP n ds k L).map fun a => (a, (docAt ds k).1)
/-- the pairs that meet: of document i with those ahead of m -/
def meetR (n : Nat) (ds : List Doc) (i m : Nat) : List (Int × Int) := ((List.range m).filter fun j => decide (i < j ∧ 0 < com n (docAt ds i).2 (docAt ds j).2)).map fun j => ((docAt ds i).1, (docAt ds j).1)
def meetN (n : Nat) (ds : List Doc) (i : Nat) : List (Int × Int) := (List.range i).flatMap fun k => meetR n ds k ds.length
def meetP (n : Nat) (ds : List Doc) : List (Int × Int) := meetN n ds ds.length
def sp_meeting_pairs : DS.Spec := fun as Q _ => ∃ (ds : List Doc) (n : Nat), as = [⟨.no, .lst (ds.map docD)⟩, ⟨.no, .int n⟩] ∧ Docs ds ∧ 1 ≤ n ∧ n ≤ 100 ∧ Q ⟨.own, .lst ((meetP n ds).map iiD)⟩ as
def sp_Lpieces : DS.Spec := fun as Q _ => ∃ (c : D) (st : List (List Nat)), as = [⟨.lent, c⟩, ⟨.lent, .lst (st.map wD)⟩] ∧ isBox c ∧ Stock st ∧ ∀ ps c', ps.length ≤ 3 → ps ≠ [] → (∀ p ∈ ps, p.length ≤ 50 ∧ ∀ w ∈ p, okW w) → isBox c' → Q ⟨.own, .lst (ps.map lnD)⟩ [⟨.lent, c'⟩, ⟨.lent, .lst (st.map wD)⟩]
def sp_Ldocuments : DS.Spec := fun as Q _ => ∃ (c : D) (st : List (List Nat)), as = [⟨.lent, c⟩, ⟨.lent, .lst (st.map wD)⟩] ∧ isBox c ∧ Stock st ∧ ∀ ds c', Docs ds → ds.length ≤ 7 → isBox c' → Q ⟨.own, .lst (ds.map docD)⟩ [⟨.lent, c'⟩, ⟨.lent, .lst (st.map wD)⟩]
def sp_Lcopied : DS.Spec := fun as Q _ => ∃ (ds : List Doc), as = [⟨.no, .lst (ds.map docD)⟩] ∧ Docs ds ∧ Q ⟨.own, .lst (ds.map docD)⟩ as
theorem har_meeting_pairs : ∀ as Q Qe, sp_meeting_pairs as Q Qe → as.length = 2 := by rintro _ _ _ ⟨_, _, rfl, _⟩; rfl
theorem har_Lpieces : ∀ as Q Qe, sp_Lpieces as Q Qe → as.length = 2 := by rintro _ _ _ ⟨_, _, rfl, _⟩; rfl
theorem har_Ldocuments : ∀ as Q Qe, sp_Ldocuments as Q Qe → as.length = 2 := by rintro _ _ _ ⟨_, _, rfl, _⟩; rfl
theorem har_Lcopied : ∀ as Q Qe, sp_Lcopied as Q Qe → as.length = 1 := by rintro _ _ _ ⟨_, rfl, _⟩; rfl
/-! ### alike documents -/
def tgA (n : Nat) (ds : List Doc) (i j : Nat) : Int := tog n (docAt ds i).2 (docAt ds j).2
def cmA (n : Nat) (ds : List Doc) (i j : Nat) : Nat := com n (docAt ds i).2 (docAt ds j).2
def alk (n : Nat) (p q : Int) (ds : List Doc) (i j : Nat) : Bool := decide (p * tgA n ds i j ≤ q * cmA n ds i j)
def idsA (ds : List Doc) (e : Nat × Nat) : Int × Int := ((docAt ds e.1).1, (docAt ds e.2).1)
def rowA (n : Nat) (ds : List Doc) (e : Nat × Nat) : D := .tup [.int (docAt ds e.1).1, .int (docAt ds e.2).1, .int (cmA n ds e.1 e.2), .int (tgA n ds e.1 e.2)]
def mIx (n : Nat) (ds : List Doc) : List (Nat × Nat) := (List.range ds.length).flatMap fun i => ((List.range ds.length).filter fun j => decide (i < j ∧ 0 < cmA n ds i j)).map fun j => (i, j)
def alR (n : Nat) (p q : Int) (ds : List Doc) (i m : Nat) : List (Nat × Nat) := ((List.range m).filter fun j => decide (i < j) && alk n p q ds i j).map fun j => (i, j)
def alN (n : Nat) (p q : Int) (ds : List Doc) (i : Nat) : List (Nat × Nat) := (List.range i).flatMap fun k => alR n p q ds k ds.length
def alP (n : Nat) (p q : Int) (ds : List Doc) : List (Nat × Nat) := alN n p q ds ds.length
def sp_alike_pairs : DS.Spec := fun as Q _ => ∃ (ds : List Doc) (n : Nat) (p q : Int), as = [⟨.no, .lst (ds.map docD)⟩, ⟨.no, .int n⟩, ⟨.no, .int p⟩, ⟨.no, .int q⟩] ∧ Docs ds ∧ 1 ≤ n ∧ n ≤ 100 ∧ 1 ≤ p ∧ p ≤ q ∧ q ≤ 1000 ∧ Q ⟨.own, .lst ((alP n p q ds).map (rowA n ds))⟩ as
theorem har_alike_pairs : ∀ as Q Qe, sp_alike_pairs as Q Qe → as.length = 4 := by rintro _ _ _ ⟨_, _, _, _, rfl, _⟩; rfl
def sp_Lalike : DS.Spec := fun as Q _ => ∃ (ps qs : List Ln) (n : Nat) (p q : Int), as = [⟨.no, .lst (ps.map lnD)⟩, ⟨.no, .lst (qs.map lnD)⟩, ⟨.no, .int n⟩, ⟨.no, .tup [.int p, .int q]⟩] ∧ Pieces ps ∧ Pieces qs ∧ 1 ≤ n ∧ n ≤ 100 ∧ 1 ≤ p ∧ p ≤ q ∧ q ≤ 1000 ∧ Q ⟨.no, .bl (decide (p * tog n ps qs ≤ q * com n ps qs))⟩ as
theorem har_Lalike : ∀ as Q Qe, sp_Lalike as Q Qe → as.length = 4 := by rintro _ _ _ ⟨_, _, _, _, _, rfl, _⟩; rfl
/-! ### chains of alike documents: places are numbers below m -/
def lev (G : Nat → Nat → Bool) (s : Nat) : Nat → Nat → Prop
  | 0, v => v = s
  | n + 1, v => lev G s n v ∨ ∃ u, lev G s n u ∧ G u v = true
open Classical in
noncomputable def dstA (P : Nat → Prop) : Nat → Nat → Nat
  | 0, _ => 99
  | f + 1, i => if P i then i else dstA P f (i + 1)
/-- the distance, 99 if there is none -/
noncomputable def dst (m : Nat) (G : Nat → Nat → Bool) (s v : Nat) : Nat := dstA (fun n => lev G s n v) (m + 1) 0
noncomputable def clo (m : Nat) (G : Nat → Nat → Bool) (κ v : Nat) : List Nat := (List.range m).filter fun j => G v j && decide (dst m G κ j + 1 = dst m G κ v)
noncomputable def nodeAt (m : Nat) (G : Nat → Nat → Bool) (κ st : Nat) : Nat → Nat
  | 0 => st
  | k + 1 => (clo m G κ (nodeAt m G κ st k)).headD 0
noncomputable def kep (m : Nat) (G : Nat → Nat → Bool) (st : Nat) : Nat := ((List.range m).filter fun k => decide (dst m G st k < 99)).headD 0
noncomputable def chn (m : Nat) (G : Nat → Nat → Bool) (κ st k : Nat) : List Nat := (List.range (k + 1)).map (nodeAt m G κ st)
noncomputable def tch (m : Nat) (G : Nat → Nat → Bool) (st : Nat) : List Nat := chn m G (kep m G st) st (dst m G (kep m G st) st)
def idn (ds : List Doc) (k : Nat) : Int := (docAt ds k).1
def Gd (n : Nat) (p q : Int) (ds : List Doc) : Nat → Nat → Bool := fun u v => decide (u < ds.length) && (decide (v < ds.length) && alk n p q ds u v)
def nbr (m : Nat) (G : Nat → Nat → Bool) (i : Nat) : List Nat := (List.range m).filter fun j => decide (j ≠ i) && G i j
def nbD (ds : List Doc) (G : Nat → Nat → Bool) : D := .dK ((List.range ds.length).map fun i => (Sum.inl (idn ds i), D.lst (Ds ((nbr ds.length G i).map (idn ds)))))
def nearD (m : Nat) (G : Nat → Nat → Bool) : List D := (List.range m).map fun i => .lst (Ds (((List.range m).filter (G i)).map fun j : Nat => (j : Int)))
def GOk (m : Nat) (G : Nat → Nat → Bool) : Prop := (∀ u v, G u v = true → u < m ∧ v < m) ∧ ∀ u v, G u v = G v u
def lD (ds : List Doc) (L : List (Nat × Nat)) : List (L2.Key × D) := L.map fun e => (Sum.inl (idn ds e.1), .int (e.2 : Nat))
def sp_u_neighbours : DS.Spec := fun as Q _ => ∃ (ds : List Doc) (n : Nat) (p q : Int), as = [⟨.no, .lst (ds.map docD)⟩, ⟨.no, .int n⟩, ⟨.no, .int p⟩, ⟨.no, .int q⟩] ∧ Docs ds ∧ 1 ≤ n ∧ n ≤ 100 ∧ 1 ≤ p ∧ p ≤ q ∧ q ≤ 1000 ∧ Q ⟨.own, nbD ds (Gd n p q ds)⟩ as
def sp_u_distances : DS.Spec := fun as Q _ => ∃ (ds : List Doc) (G : Nat → Nat → Bool) (s : Nat), as = [⟨.no, nbD ds G⟩, ⟨.no, .int (idn ds s)⟩] ∧ Docs ds ∧ GOk ds.length G ∧ s < ds.length ∧
  ∀ L : List (Nat × Nat), (L.map (·.1)).Nodup → (∀ v d, (v, d) ∈ L ↔ (dst ds.length G s v = d ∧ d < 99)) → Q ⟨.own, .dK (lD ds L)⟩ as
def sp_told_chain : DS.Spec := fun as Q _ => ∃ (ds : List Doc) (n : Nat) (p q : Int) (st : Nat), as = [⟨.no, .lst (ds.map docD)⟩, ⟨.no, .int n⟩, ⟨.no, .int p⟩, ⟨.no, .int q⟩, ⟨.no, .int (idn ds st)⟩] ∧ Docs ds ∧ 1 ≤ n ∧ n ≤ 100 ∧ 1 ≤ p ∧ p ≤ q ∧ q ≤ 1000 ∧ st < ds.length ∧
  Q ⟨.own, .lst (Ds ((tch ds.length (Gd n p q ds) st).map (idn ds)))⟩ as
def sp_Lnear : DS.Spec := fun as Q _ => ∃ (ds : List Doc) (n : Nat) (p q : Int), as = [⟨.no, .lst (ds.map docD)⟩, ⟨.no, .int n⟩, ⟨.no, .tup [.int p, .int q]⟩] ∧ Docs ds ∧ 1 ≤ n ∧ n ≤ 100 ∧ 1 ≤ p ∧ p ≤ q ∧ q ≤ 1000 ∧ Q ⟨.own, .lst (nearD ds.length (Gd n p q ds))⟩ as
def sp_Ldistances : DS.Spec := fun as Q _ => ∃ (m : Nat) (G : Nat → Nat → Bool) (s : Nat), as = [⟨.no, .lst (nearD m G)⟩, ⟨.no, .int (s : Nat)⟩] ∧ m ≤ 8 ∧ GOk m G ∧ s < m ∧ Q ⟨.own, .lst (Ds ((List.range m).map fun k => (dst m G s k : Int)))⟩ as
theorem har_u_neighbours : ∀ as Q Qe, sp_u_neighbours as Q Qe → as.length = 4 := by rintro _ _ _ ⟨_, _, _, _, rfl, _⟩; rfl
theorem har_u_distances : ∀ as Q Qe, sp_u_distances as Q Qe → as.length = 2 := by rintro _ _ _ ⟨_, _, _, rfl, _⟩; rfl
theorem har_told_chain : ∀ as Q Qe, sp_told_chain as Q Qe → as.length = 5 := by rintro _ _ _ ⟨_, _, _, _, _, rfl, _⟩; rfl
theorem har_Lnear : ∀ as Q Qe, sp_Lnear as Q Qe → as.length = 3 := by rintro _ _ _ ⟨_, _, _, _, rfl, _⟩; rfl
theorem har_Ldistances : ∀ as Q Qe, sp_Ldistances as Q Qe → as.length = 2 := by rintro _ _ _ ⟨_, _, _, rfl, _⟩; rfl
def topS (i : Nat) : Stmt := PySem.Challenge.pw_corpuskeep_k30_told_chains.main.body.getD i (.Pass ⟨0, 0, 0, 0⟩)
abbrev s_Ldraw : Stmt := topS 13
abbrev N_Ldraw : List Str := ["_law_box", "_law_many", "_law_at"]
theorem sc_Ldraw : FnScope N_Ldraw ["_law_box", "_law_many"] (defScope s_Ldraw) := ⟨rfl, rfl, rfl, by decide +kernel, rfl, by decide +kernel, by decide +kernel⟩
abbrev s_Lsolid : Stmt := topS 16
abbrev N_Lsolid : List Str := ["_law_box", "_law_chars"]
theorem sc_Lsolid : FnScope N_Lsolid ["_law_box"] (defScope s_Lsolid) := ⟨rfl, rfl, rfl, by decide +kernel, rfl, by decide +kernel, by decide +kernel⟩
abbrev s_Lword : Stmt := topS 18
abbrev N_Lword : List Str := ["_law_box", "_law_many", "_law_text_here", "_law_k"]
theorem sc_Lword : FnScope N_Lword ["_law_box", "_law_many"] (defScope s_Lword) := ⟨rfl, rfl, rfl, by decide +kernel, rfl, by decide +kernel, by decide +kernel⟩
abbrev s_Lstock : Stmt := topS 19
abbrev N_Lstock : List Str := ["_law_box", "_law_many", "_law_words", "_law_start", "_law_end", "_law_k", "_law_word_here"]
theorem sc_Lstock : FnScope N_Lstock ["_law_box", "_law_many"] (defScope s_Lstock) := ⟨rfl, rfl, rfl, by decide +kernel, rfl, by decide +kernel, by decide +kernel⟩
abbrev s_Lpiece : Stmt := topS 20
abbrev N_Lpiece : List Str := ["_law_box", "_law_stock_here", "_law_many", "_law_word_here", "_law_k"]
theorem sc_Lpiece : FnScope N_Lpiece ["_law_box", "_law_stock_here"] (defScope s_Lpiece) := ⟨rfl, rfl, rfl, by decide +kernel, rfl, by decide +kernel, by decide +kernel⟩
abbrev s_Lpieces : Stmt := topS 21
abbrev N_Lpieces : List Str := ["_law_box", "_law_stock_here", "_law_k"]
theorem sc_Lpieces : FnScope N_Lpieces ["_law_box", "_law_stock_here"] (defScope s_Lpieces) := ⟨rfl, rfl, rfl, by decide +kernel, rfl, by decide +kernel, by decide +kernel⟩
abbrev s_Ldocuments : Stmt := topS 22
abbrev N_Ldocuments : List Str := ["_law_box", "_law_stock_here", "_law_documents_here", "_law_number", "_law_k", "_law_pieces_here", "_law_piece_here"]
theorem sc_Ldocuments : FnScope N_Ldocuments ["_law_box", "_law_stock_here"] (defScope s_Ldocuments) := ⟨rfl, rfl, rfl, by decide +kernel, rfl, by decide +kernel, by decide +kernel⟩
abbrev s_Llength : Stmt := topS 24
abbrev N_Llength : List Str := ["_law_box"]
theorem sc_Llength : FnScope N_Llength ["_law_box"] (defScope s_Llength) := ⟨rfl, rfl, rfl, by decide +kernel, rfl, by decide +kernel, by decide +kernel⟩
abbrev s_Lshare : Stmt := topS 23
abbrev N_Lshare : List Str := ["_law_box", "_law_under"]
theorem sc_Lshare : FnScope N_Lshare ["_law_box"] (defScope s_Lshare) := ⟨rfl, rfl, rfl, by decide +kernel, rfl, by decide +kernel, by decide +kernel⟩
abbrev s_Lcopied : Stmt := topS 28
abbrev N_Lcopied : List Str := ["_law_documents_here", "_law_rows", "_law_number", "_law_pieces_here", "_law_piece_here"]
theorem sc_Lcopied : FnScope N_Lcopied ["_law_documents_here"] (defScope s_Lcopied) := ⟨rfl, rfl, rfl, by decide +kernel, rfl, by decide +kernel, by decide +kernel⟩
abbrev s_Lshingles : Stmt := topS 25
abbrev N_Lshingles : List Str := ["_law_pieces_here", "_law_length_here", "_law_rows", "_law_piece_here", "_law_start", "_law_row"]
theorem sc_Lshingles : FnScope N_Lshingles ["_law_pieces_here", "_law_length_here"] (defScope s_Lshingles) := ⟨rfl, rfl, rfl, by decide +kernel, rfl, by decide +kernel, by decide +kernel⟩
abbrev s_Lcompared : Stmt := topS 26
abbrev N_Lcompared : List Str := ["_law_first", "_law_second", "_law_length_here", "_law_ours", "_law_theirs", "_law_common", "_law_row"]
theorem sc_Lcompared : FnScope N_Lcompared ["_law_first", "_law_second", "_law_length_here"] (defScope s_Lcompared) := ⟨rfl, rfl, rfl, by decide +kernel, rfl, by decide +kernel, by decide +kernel⟩
abbrev s_Lalike : Stmt := topS 27
abbrev N_Lalike : List Str := ["_law_first", "_law_second", "_law_length_here", "_law_share_here", "_law_common", "_law_together"]
theorem sc_Lalike : FnScope N_Lalike ["_law_first", "_law_second", "_law_length_here", "_law_share_here"] (defScope s_Lalike) := ⟨rfl, rfl, rfl, by decide +kernel, rfl, by decide +kernel, by decide +kernel⟩
abbrev s_Lnear : Stmt := topS 29
abbrev N_Lnear : List Str := ["_law_documents_here", "_law_length_here", "_law_share_here", "_law_near_here", "_law_row", "_law_k"]
theorem sc_Lnear : FnScope N_Lnear ["_law_documents_here", "_law_length_here", "_law_share_here"] (defScope s_Lnear) := ⟨rfl, rfl, rfl, by decide +kernel, rfl, by decide +kernel, by decide +kernel⟩
abbrev s_Ldistances : Stmt := topS 30
abbrev N_Ldistances : List Str := ["_law_near_here", "_law_start", "_law_distances_here", "_law_turn", "_law_k", "_law_j"]
theorem sc_Ldistances : FnScope N_Ldistances ["_law_near_here", "_law_start"] (defScope s_Ldistances) := ⟨rfl, rfl, rfl, by decide +kernel, rfl, by decide +kernel, by decide +kernel⟩
abbrev s_shingles : Stmt := topS 1
abbrev N_shingles : List Str := ["pieces", "length", "seen", "rows", "piece", "start", "shingle"]
theorem sc_shingles : FnScope N_shingles ["pieces", "length"] (defScope s_shingles) := ⟨rfl, rfl, rfl, by decide +kernel, rfl, by decide +kernel, by decide +kernel⟩
abbrev s_meeting_pairs : Stmt := topS 4
abbrev N_meeting_pairs : List Str := ["documents", "length", "table", "pairs", "number", "pieces", "shingle", "earlier", "other"]
theorem sc_meeting_pairs : FnScope N_meeting_pairs ["documents", "length"] (defScope s_meeting_pairs) := ⟨rfl, rfl, rfl, by decide +kernel, rfl, by decide +kernel, by decide +kernel⟩
abbrev s_compare : Stmt := topS 2
abbrev N_compare : List Str := ["first", "second", "length", "over", "under", "ours", "table", "theirs", "common", "together", "shingle"]
theorem sc_compare : FnScope N_compare ["first", "second", "length", "over", "under"] (defScope s_compare) := ⟨rfl, rfl, rfl, by decide +kernel, rfl, by decide +kernel, by decide +kernel⟩
abbrev s_alike_pairs : Stmt := topS 5
abbrev N_alike_pairs : List Str := ["documents", "length", "over", "under", "table", "rows", "first", "second", "alike", "common", "together", "number", "pieces"]
theorem sc_alike_pairs : FnScope N_alike_pairs ["documents", "length", "over", "under"] (defScope s_alike_pairs) := ⟨rfl, rfl, rfl, by decide +kernel, rfl, by decide +kernel, by decide +kernel⟩
abbrev s_u_neighbours : Stmt := topS 7
abbrev N_u_neighbours : List Str := ["documents", "length", "over", "under", "table", "first", "second", "common", "together", "number", "pieces"]
theorem sc_u_neighbours : FnScope N_u_neighbours ["documents", "length", "over", "under"] (defScope s_u_neighbours) := ⟨rfl, rfl, rfl, by decide +kernel, rfl, by decide +kernel, by decide +kernel⟩
abbrev s_u_distances : Stmt := topS 8
abbrev N_u_distances : List Str := ["table", "start", "distances", "queue", "at", "number", "other"]
theorem sc_u_distances : FnScope N_u_distances ["table", "start"] (defScope s_u_distances) := ⟨rfl, rfl, rfl, by decide +kernel, rfl, by decide +kernel, by decide +kernel⟩
abbrev s_told_chain : Stmt := topS 9
abbrev N_told_chain : List Str := ["documents", "length", "over", "under", "number", "table", "reached", "kept", "distances", "chain", "present", "closer", "other"]
theorem sc_told_chain : FnScope N_told_chain ["documents", "length", "over", "under", "number"] (defScope s_told_chain) := ⟨rfl, rfl, rfl, by decide +kernel, rfl, by decide +kernel, by decide +kernel⟩
abbrev s_Lcell : Stmt := topS 11
abbrev N_Lcell : List Str := ["_law_script", "_law_k"]
theorem sc_Lcell : FnScope N_Lcell ["_law_script", "_law_k"] (defScope s_Lcell) := ⟨rfl, rfl, rfl, by decide +kernel, rfl, by decide +kernel, by decide +kernel⟩
abbrev s_Ldigits : Stmt := topS 12
abbrev N_Ldigits : List Str := ["_law_script", "_law_first", "_law_last", "_law_digits_here", "_law_k", "_law_cell_here", "_law_turn", "_law_seed"]
theorem sc_Ldigits : FnScope N_Ldigits ["_law_script", "_law_first", "_law_last"] (defScope s_Ldigits) := ⟨rfl, rfl, rfl, by decide +kernel, rfl, by decide +kernel, by decide +kernel⟩
abbrev s_Lsame : Stmt := topS 14
abbrev N_Lsame : List Str := ["_law_actual", "_law_due", "_law_k"]
theorem sc_Lsame : FnScope N_Lsame ["_law_actual", "_law_due"] (defScope s_Lsame) := ⟨rfl, rfl, rfl, by decide +kernel, rfl, by decide +kernel, by decide +kernel⟩
abbrev s_law : Stmt := topS 31
abbrev N_law : List Str := ["_law_script", "_law_box", "_law_stock_here", "_law_documents_here", "_law_length_here", "_law_share_here", "_law_passed", "_law_near_here", "_law_start", "_law_reach", "_law_kept", "_law_distances_here", "_law_due", "_law_turn", "_law_closer", "_law_number", "_law_actual", "_law_k"]
theorem sc_law : FnScope N_law ["_law_script"] (defScope s_law) := ⟨rfl, rfl, rfl, by decide +kernel, rfl, by decide +kernel, by decide +kernel⟩
def w_Ldraw_s_3 : WS := (wRet (wC (.int 0)))
def w_Ldraw_s_2 : WS := (wSeq (wIf (wTst (wBin dLt (wVar 2) (wCB dLen (waCons (wBin dIx (wVar 0) (wC (.int 0))) waNil)))) (wRet (wBin dMod (wCB dInt (waCons (wBin dIx (wBin dIx (wVar 0) (wC (.int 0))) (wVar 2)) waNil)) (wVar 1))) wNext) w_Ldraw_s_3)
def w_Ldraw_s_1 : WS := (wSeq (wSetIx 0 (wC (.int 1)) (wBin dAdd (wVar 2) (wC (.int 1)))) w_Ldraw_s_2)
def w_Ldraw : WS := (wSeq (wSet 2 (wBin dIx (wVar 0) (wC (.int 1)))) w_Ldraw_s_1)
def w_Lsolid_s_1 : WS := (wRet (wBin dIx (wVar 1) (wCall sp_Ldraw (waCons (wVar 0) (waCons (wC (.int 93)) waNil)))))
def w_Lsolid : WS := (wSeq (wSet 1 (wC (.str "!\"#$&'()*+,-./0123456789:;<=>?@ABCDEFGHIJKLMNOPQRSTUVWXYZ[\\]^_`abcdefghijklmnopqrstuvwxyz{|}~"))) w_Lsolid_s_1)
def w_Lword_l1 : WS := (wSet 2 (wBin dAdd (wVar 2) (wCall sp_Lsolid (waCons (wVar 0) waNil))))
def w_Lword_s_2 : WS := (wRet (wVar 2))
def w_Lword_s_1 : WS := (wSeq (wFor (wiRng1 (waCons (wVar 1) waNil)) (wgName 3) w_Lword_l1) w_Lword_s_2)
def w_Lword : WS := (wSeq (wSet 2 (wC (.str ""))) w_Lword_s_1)
def w_Lstock_l1_1 : WS := (wIf (wTst (wBin dNotIn (wVar 6) (wVar 2))) (wApp 2 (wVar 6)) wNext)
def w_Lstock_l1 : WS := (wSeq (wSet 6 (wBin dAdd (wBin dAdd (wVar 3) (wCall sp_Lsolid (waCons (wVar 0) waNil))) (wVar 4))) w_Lstock_l1_1)
def w_Lstock_s_4 : WS := (wRet (wVar 2))
def w_Lstock_s_3 : WS := (wSeq (wFor (wiRng1 (waCons (wVar 1) waNil)) (wgName 5) w_Lstock_l1) w_Lstock_s_4)
def w_Lstock_s_2 : WS := (wSeq (wSet 4 (wCall sp_Lword (waCons (wVar 0) (waCons (wCall sp_Ldraw (waCons (wVar 0) (waCons (wC (.int 3)) waNil))) waNil)))) w_Lstock_s_3)
def w_Lstock_s_1 : WS := (wSeq (wSet 3 (wCall sp_Lword (waCons (wVar 0) (waCons (wCall sp_Ldraw (waCons (wVar 0) (waCons (wC (.int 3)) waNil))) waNil)))) w_Lstock_s_2)
def w_Lstock : WS := (wSeq (wSet 2 (wLst waNil)) w_Lstock_s_1)
def w_Lpiece_s_2 : WS := (wRet (wLc (wiRng1 (waCons (wVar 2) waNil)) [4] (wgName 4) wtYes (wBin dIx (wVar 1) (wCall sp_Ldraw (waCons (wVar 0) (waCons (wCB dLen (waCons (wVar 1) waNil)) waNil))))))
def w_Lpiece_s_1 : WS := (wSeq (wIf (wTst (wBin dEq (wCall sp_Ldraw (waCons (wVar 0) (waCons (wC (.int 6)) waNil))) (wC (.int 0)))) (wSeq (wSet 3 (wBin dIx (wVar 1) (wCall sp_Ldraw (waCons (wVar 0) (waCons (wCB dLen (waCons (wVar 1) waNil)) waNil))))) (wRet (wLc (wiRng1 (waCons (wBin dAdd (wVar 2) (wCall sp_Ldraw (waCons (wVar 0) (waCons (wC (.int 20)) waNil)))) waNil)) [4] (wgName 4) wtYes (wVar 3)))) wNext) w_Lpiece_s_2)
def w_Lpiece : WS := (wSeq (wSet 2 (wBin dAdd (wC (.int 1)) (wCall sp_Ldraw (waCons (wVar 0) (waCons (wC (.int 7)) waNil))))) w_Lpiece_s_1)
def w_Lpieces : WS := (wRet (wLc (wiRng1 (waCons (wBin dAdd (wC (.int 1)) (wCall sp_Ldraw (waCons (wVar 0) (waCons (wC (.int 3)) waNil)))) waNil)) [2] (wgName 2) wtYes (wCall sp_Lpiece (waCons (wVar 0) (waCons (wVar 1) waNil)))))
def w_Ldocuments_l1_2 : WS := (wApp 2 (wTup (waCons (wVar 3) (waCons (wVar 5) waNil))))
def w_Ldocuments_l1_1 : WS := (wSeq (wIf (wAnd (wTst (wBin dGt (wVar 4) (wC (.int 0)))) (wTst (wBin dEq (wCall sp_Ldraw (waCons (wVar 0) (waCons (wC (.int 2)) waNil))) (wC (.int 0))))) (wSeq (wSet 5 (wLc (wiSeq (wBin dIx (wBin dIx (wVar 2) (wCall sp_Ldraw (waCons (wVar 0) (waCons (wVar 4) waNil)))) (wC (.int 1)))) [6] (wgName 6) wtYes (wCB dList (waCons (wVar 6) waNil)))) (wSetIx 5 (wC (.int 0)) (wBin dAdd (wBin dIx (wVar 5) (wC (.int 0))) (wLst (waCons (wBin dIx (wVar 1) (wCall sp_Ldraw (waCons (wVar 0) (waCons (wCB dLen (waCons (wVar 1) waNil)) waNil)))) waNil))))) (wSet 5 (wCall sp_Lpieces (waCons (wVar 0) (waCons (wVar 1) waNil))))) w_Ldocuments_l1_2)
def w_Ldocuments_l1 : WS := (wSeq (wSet 3 (wBin dAdd (wBin dAdd (wVar 3) (wC (.int 1))) (wBin dMul (wCall sp_Ldraw (waCons (wVar 0) (waCons (wC (.int 5)) waNil))) (wCall sp_Ldraw (waCons (wVar 0) (waCons (wC (.int 900)) waNil)))))) w_Ldocuments_l1_1)
def w_Ldocuments_s_3 : WS := (wRet (wVar 2))
def w_Ldocuments_s_2 : WS := (wSeq (wFor (wiRng1 (waCons (wCall sp_Ldraw (waCons (wVar 0) (waCons (wC (.int 8)) waNil))) waNil)) (wgName 4) w_Ldocuments_l1) w_Ldocuments_s_3)
def w_Ldocuments_s_1 : WS := (wSeq (wSet 3 (wUn dNeg (wC (.int 1)))) w_Ldocuments_s_2)
def w_Ldocuments : WS := (wSeq (wSet 2 (wLst waNil)) w_Ldocuments_s_1)
def w_Llength_s_1 : WS := (wRet (wBin dAdd (wC (.int 1)) (wCall sp_Ldraw (waCons (wVar 0) (waCons (wC (.int 3)) waNil)))))
def w_Llength : WS := (wSeq (wIf (wTst (wBin dEq (wCall sp_Ldraw (waCons (wVar 0) (waCons (wC (.int 7)) waNil))) (wC (.int 0)))) (wRet (wBin dAdd (wC (.int 1)) (wCall sp_Ldraw (waCons (wVar 0) (waCons (wC (.int 20)) waNil))))) wNext) w_Llength_s_1)
def w_Lshare_s_2 : WS := (wRet (wTup (waCons (wBin dAdd (wC (.int 1)) (wCall sp_Ldraw (waCons (wVar 0) (waCons (wVar 1) waNil)))) (waCons (wVar 1) waNil))))
def w_Lshare_s_1 : WS := (wSeq (wIf (wTst (wBin dEq (wCall sp_Ldraw (waCons (wVar 0) (waCons (wC (.int 8)) waNil))) (wC (.int 0)))) (wSet 1 (wC (.int 1000))) wNext) w_Lshare_s_2)
def w_Lshare : WS := (wSeq (wSet 1 (wBin dAdd (wC (.int 1)) (wCall sp_Ldraw (waCons (wVar 0) (waCons (wC (.int 12)) waNil))))) w_Lshare_s_1)
def w_Lcopied_l1 : WS := (wApp 1 (wTup (waCons (wVar 2) (waCons (wLc (wiSeq (wVar 3)) [4] (wgName 4) wtYes (wCB dList (waCons (wVar 4) waNil))) waNil))))
def w_Lcopied_s_2 : WS := (wRet (wVar 1))
def w_Lcopied_s_1 : WS := (wSeq (wFor (wiSeq (wVar 0)) (wgTup 2 (wgCons (wgName 2) (wgCons (wgName 3) wgNil))) w_Lcopied_l1) w_Lcopied_s_2)
def w_Lcopied : WS := (wSeq (wSet 1 (wLst waNil)) w_Lcopied_s_1)
def w_Lshingles_l2_1 : WS := (wIf (wTst (wBin dNotInD (wVar 5) (wVar 2))) (wApp 2 (wVar 5)) wNext)
def w_Lshingles_l2 : WS := (wSeq (wSet 5 (wSl (wVar 3) (woS (wVar 4)) (woS (wBin dAdd (wVar 4) (wVar 1))))) w_Lshingles_l2_1)
def w_Lshingles_l1 : WS := (wFor (wiRng1 (waCons (wCB dMax2 (waCons (wC (.int 1)) (waCons (wBin dAdd (wBin dSub (wCB dLen (waCons (wVar 3) waNil)) (wVar 1)) (wC (.int 1))) waNil))) waNil)) (wgName 4) w_Lshingles_l2)
def w_Lshingles_s_2 : WS := (wRet (wVar 2))
def w_Lshingles_s_1 : WS := (wSeq (wFor (wiSeq (wVar 0)) (wgName 3) w_Lshingles_l1) w_Lshingles_s_2)
def w_Lshingles : WS := (wSeq (wSet 2 (wLst waNil)) w_Lshingles_s_1)
def w_Lcompared_s_3 : WS := (wRet (wTup (waCons (wVar 5) (waCons (wBin dSub (wBin dAdd (wCB dLen (waCons (wVar 3) waNil)) (wCB dLen (waCons (wVar 4) waNil))) (wVar 5)) waNil))))
def w_Lcompared_s_2 : WS := (wSeq (wSet 5 (wCB dLen (waCons (wLc (wiSeq (wVar 4)) [6] (wgName 6) (wTst (wBin dInD (wVar 6) (wVar 3))) (wVar 6)) waNil))) w_Lcompared_s_3)
def w_Lcompared_s_1 : WS := (wSeq (wSet 4 (wCall sp_Lshingles (waCons (wVar 1) (waCons (wVar 2) waNil)))) w_Lcompared_s_2)
def w_Lcompared : WS := (wSeq (wSet 3 (wCall sp_Lshingles (waCons (wVar 0) (waCons (wVar 2) waNil)))) w_Lcompared_s_1)
def w_Lalike_s_1 : WS := (wRet (wBin dLe (wBin dMul (wBin dIx (wVar 3) (wC (.int 0))) (wVar 5)) (wBin dMul (wBin dIx (wVar 3) (wC (.int 1))) (wVar 4))))
def w_Lalike : WS := (wSeq (wAsg (wCall sp_Lcompared (waCons (wVar 0) (waCons (wVar 1) (waCons (wVar 2) waNil)))) (wgTup 2 (wgCons (wgName 4) (wgCons (wgName 5) wgNil)))) w_Lalike_s_1)
def w_Lnear_l1 : WS := (wApp 3 (wLc (wiRng1 (waCons (wCB dLen (waCons (wVar 0) waNil)) waNil)) [5] (wgName 5) (wTst (wCall sp_Lalike (waCons (wBin dIx (wVar 4) (wC (.int 1))) (waCons (wBin dIx (wBin dIx (wVar 0) (wVar 5)) (wC (.int 1))) (waCons (wVar 1) (waCons (wVar 2) waNil)))))) (wVar 5)))
def w_Lnear_s_2 : WS := (wRet (wVar 3))
def w_Lnear_s_1 : WS := (wSeq (wFor (wiSeq (wVar 0)) (wgName 4) w_Lnear_l1) w_Lnear_s_2)
def w_Lnear : WS := (wSeq (wSet 3 (wLst waNil)) w_Lnear_s_1)
def w_Ldistances_l3 : WS := (wSetIx 2 (wVar 4) (wCB dMin2 (waCons (wBin dIx (wVar 2) (wVar 4)) (waCons (wBin dAdd (wBin dIx (wVar 2) (wVar 5)) (wC (.int 1))) waNil))))
def w_Ldistances_l2 : WS := (wFor (wiSeq (wBin dIx (wVar 0) (wVar 4))) (wgName 5) w_Ldistances_l3)
def w_Ldistances_l1 : WS := (wFor (wiRng1 (waCons (wCB dLen (waCons (wVar 0) waNil)) waNil)) (wgName 4) w_Ldistances_l2)
def w_Ldistances_s_3 : WS := (wRet (wVar 2))
def w_Ldistances_s_2 : WS := (wSeq (wFor (wiRng1 (waCons (wCB dLen (waCons (wVar 0) waNil)) waNil)) (wgName 3) w_Ldistances_l1) w_Ldistances_s_3)
def w_Ldistances_s_1 : WS := (wSeq (wSetIx 2 (wVar 1) (wC (.int 0))) w_Ldistances_s_2)
def w_Ldistances : WS := (wSeq (wSet 2 (wLc (wiRng1 (waCons (wCB dLen (waCons (wVar 0) waNil)) waNil)) [4] (wgName 4) wtYes (wC (.int 99)))) w_Ldistances_s_1)
def w_shingles_l2_1 : WS := (wIf (wTst (wBin dDNotIn (wVar 6) (wVar 2))) (wSeq (wDPut 2 (wVar 6) (wC (.bl true))) (wApp 3 (wVar 6))) wNext)
def w_shingles_l2 : WS := (wSeq (wSet 6 (wCB dTupL (waCons (wSl (wVar 4) (woS (wVar 5)) (woS (wBin dAdd (wVar 5) (wVar 1)))) waNil))) w_shingles_l2_1)
def w_shingles_l1 : WS := (wFor (wiRng1 (waCons (wCB dMax2 (waCons (wC (.int 1)) (waCons (wBin dAdd (wBin dSub (wCB dLen (waCons (wVar 4) waNil)) (wVar 1)) (wC (.int 1))) waNil))) waNil)) (wgName 5) w_shingles_l2)
def w_shingles_s_3 : WS := (wRet (wVar 3))
def w_shingles_s_2 : WS := (wSeq (wFor (wiSeq (wVar 0)) (wgName 4) w_shingles_l1) w_shingles_s_3)
def w_shingles_s_1 : WS := (wSeq (wSet 3 (wLst waNil)) w_shingles_s_2)
def w_shingles : WS := (wSeq (wSet 2 (wNew (.dT []))) w_shingles_s_1)
def w_meeting_pairs_l3 : WM := (wmOf (wDPut 3 (wTup (waCons (wVar 8) (waCons (wVar 4) waNil))) (wC (.bl true))))
def w_meeting_pairs_l2_2 : WM := (wmApp 7 (wVar 4))
def w_meeting_pairs_l2_1 : WM := (wmSeq (wmForA 7 (wgName 8) w_meeting_pairs_l3) w_meeting_pairs_l2_2)
def w_meeting_pairs_l2 : WM := (wmSeq (wmSdSet 7 2 (wVar 6)) w_meeting_pairs_l2_1)
def w_meeting_pairs_l1 : WM := (wmFor (wiSeq (wCall sp_shingles (waCons (wVar 5) (waCons (wVar 1) waNil)))) (wgName 6) w_meeting_pairs_l2)
def w_meeting_pairs_s_3 : WM := (wmOf (wRet (wCB dSortP (waCons (wLKeys (wVar 3)) waNil))))
def w_meeting_pairs_s_2 : WM := (wmSeq (wmFor (wiSeq (wVar 0)) (wgTup 2 (wgCons (wgName 4) (wgCons (wgName 5) wgNil))) w_meeting_pairs_l1) w_meeting_pairs_s_3)
def w_meeting_pairs_s_1 : WM := (wmSeq (wmOf (wSet 3 (wNew (.dT [])))) w_meeting_pairs_s_2)
def w_meeting_pairs : WS := (wsOfM (wmSeq (wmNewT 2) w_meeting_pairs_s_1))
def w_compare_s_5 : WS := (wRet (wTup (waCons (wBin dLe (wBin dMul (wVar 3) (wVar 9)) (wBin dMul (wVar 4) (wVar 8))) (waCons (wVar 8) (waCons (wVar 9) waNil)))))
def w_compare_s_4 : WS := (wSeq (wSet 9 (wBin dSub (wBin dAdd (wCB dLen (waCons (wVar 5) waNil)) (wCB dLen (waCons (wVar 7) waNil))) (wVar 8))) w_compare_s_5)
def w_compare_s_3 : WS := (wSeq (wSet 8 (wCB dLen (waCons (wLc (wiSeq (wVar 7)) [10] (wgName 10) (wTst (wBin dDIn (wVar 10) (wVar 6))) (wVar 10)) waNil))) w_compare_s_4)
def w_compare_s_2 : WS := (wSeq (wSet 7 (wCall sp_shingles (waCons (wVar 1) (waCons (wVar 2) waNil)))) w_compare_s_3)
def w_compare_s_1 : WS := (wSeq (wSet 6 (wDc (.dT []) (wiSeq (wVar 5)) [10] (wgName 10) wtYes (wVar 10) (wC (.bl true)))) w_compare_s_2)
def w_compare : WS := (wSeq (wSet 5 (wCall sp_shingles (waCons (wVar 0) (waCons (wVar 2) waNil)))) w_compare_s_1)
def w_alike_pairs_l1_1 : WS := (wIf (wTst (wVar 8)) (wApp 5 (wTup (waCons (wVar 6) (waCons (wVar 7) (waCons (wVar 9) (waCons (wVar 10) waNil)))))) wNext)
def w_alike_pairs_l1 : WS := (wSeq (wAsg (wCall sp_compare (waCons (wBin dDGet (wVar 4) (wVar 6)) (waCons (wBin dDGet (wVar 4) (wVar 7)) (waCons (wVar 1) (waCons (wVar 2) (waCons (wVar 3) waNil)))))) (wgTup 3 (wgCons (wgName 8) (wgCons (wgName 9) (wgCons (wgName 10) wgNil))))) w_alike_pairs_l1_1)
def w_alike_pairs_s_3 : WS := (wRet (wVar 5))
def w_alike_pairs_s_2 : WS := (wSeq (wFor (wiSeq (wCall sp_meeting_pairs (waCons (wVar 0) (waCons (wVar 1) waNil)))) (wgTup 2 (wgCons (wgName 6) (wgCons (wgName 7) wgNil))) w_alike_pairs_l1) w_alike_pairs_s_3)
def w_alike_pairs_s_1 : WS := (wSeq (wSet 5 (wLst waNil)) w_alike_pairs_s_2)
def w_alike_pairs : WS := (wSeq (wSet 4 (wDc (.dK []) (wiSeq (wVar 0)) [11, 12] (wgTup 2 (wgCons (wgName 11) (wgCons (wgName 12) wgNil))) wtYes (wVar 11) (wVar 12))) w_alike_pairs_s_1)
def w_u_neighbours_l1_1 : WM := (wmQApp (wqKx 6 (wqVar 4)) (wVar 5))
def w_u_neighbours_l1 : WM := (wmSeq (wmQApp (wqKx 5 (wqVar 4)) (wVar 6)) w_u_neighbours_l1_1)
def w_u_neighbours_s_2 : WM := (wmFzKO 4 (wmOf (wRet (wDc (.dK []) (wiKeys 4) [9] (wgName 9) wtYes (wVar 9) (wCB dSortI (waCons (wBin dDGet (wVar 4) (wVar 9)) waNil))))))
def w_u_neighbours_s_1 : WM := (wmSeq (wmFor (wiSeq (wCall sp_alike_pairs (waCons (wVar 0) (waCons (wVar 1) (waCons (wVar 2) (waCons (wVar 3) waNil)))))) (wgTup 4 (wgCons (wgName 5) (wgCons (wgName 6) (wgCons (wgName 7) (wgCons (wgName 8) wgNil))))) w_u_neighbours_l1) w_u_neighbours_s_2)
def w_u_neighbours : WS := (wsOfM (wmSeq (wmDcNL 4 (wiSeq (wVar 0)) [9, 10] (wgTup 2 (wgCons (wgName 9) (wgCons (wgName 10) wgNil))) (wVar 9)) w_u_neighbours_s_1))
def w_u_distances_l2 : WS := (wIf (wTst (wBin dDNotIn (wVar 6) (wVar 2))) (wSeq (wDPut 2 (wVar 6) (wBin dAdd (wBin dDGet (wVar 2) (wVar 5)) (wC (.int 1)))) (wApp 3 (wVar 6))) wNext)
def w_u_distances_l1_2 : WS := (wFor (wiSeq (wBin dDGet (wVar 0) (wVar 5))) (wgName 6) w_u_distances_l2)
def w_u_distances_l1_1 : WS := (wSeq (wAug 4 dIAdd (wC (.int 1))) w_u_distances_l1_2)
def w_u_distances_l1 : WS := (wSeq (wSet 5 (wBin dIx (wVar 3) (wVar 4))) w_u_distances_l1_1)
def w_u_distances_s_4 : WS := (wRet (wVar 2))
def w_u_distances_s_3 : WS := (wSeq (wWhile (wTst (wBin dLt (wVar 4) (wCB dLen (waCons (wVar 3) waNil)))) w_u_distances_l1) w_u_distances_s_4)
def w_u_distances_s_2 : WS := (wSeq (wSet 4 (wC (.int 0))) w_u_distances_s_3)
def w_u_distances_s_1 : WS := (wSeq (wSet 3 (wLst (waCons (wVar 1) waNil))) w_u_distances_s_2)
def w_u_distances : WS := (wSeq (wSet 2 (wDLit1 1 0)) w_u_distances_s_1)
def w_told_chain_l1_2 : WS := (wApp 9 (wBin dIx (wVar 11) (wC (.int 0))))
def w_told_chain_l1_1 : WS := (wSeq (wSet 11 (wLc (wiSeq (wBin dDGet (wVar 5) (wVar 10))) [12] (wgName 12) (wTst (wBin dLt (wBin dDGet (wVar 8) (wVar 12)) (wBin dDGet (wVar 8) (wVar 10)))) (wVar 12))) w_told_chain_l1_2)
def w_told_chain_l1 : WS := (wSeq (wSet 10 (wBin dIx (wVar 9) (wUn dNeg (wC (.int 1))))) w_told_chain_l1_1)
def w_told_chain_s_6 : WS := (wRet (wVar 9))
def w_told_chain_s_5 : WS := (wSeq (wWhile (wTst (wBin dNe (wBin dIx (wVar 9) (wUn dNeg (wC (.int 1)))) (wVar 7))) w_told_chain_l1) w_told_chain_s_6)
def w_told_chain_s_4 : WS := (wFzS 8 (wSeq (wSet 9 (wLst (waCons (wVar 4) waNil))) w_told_chain_s_5))
def w_told_chain_s_3 : WS := (wSeq (wSet 8 (wCall sp_u_distances (waCons (wVar 5) (waCons (wVar 7) waNil)))) w_told_chain_s_4)
def w_told_chain_s_2 : WS := (wSeq (wSet 7 (wCB dMinL (waCons (wLc (wiKeys 6) [12] (wgName 12) wtYes (wVar 12)) waNil))) w_told_chain_s_3)
def w_told_chain_s_1 : WS := (wFzS 5 (wSeq (wSet 6 (wCall sp_u_distances (waCons (wVar 5) (waCons (wVar 4) waNil)))) w_told_chain_s_2))
def w_told_chain : WS := (wSeq (wSet 5 (wCall sp_u_neighbours (waCons (wVar 0) (waCons (wVar 1) (waCons (wVar 2) (waCons (wVar 3) waNil)))))) w_told_chain_s_1)
def w_Lcell_s_1 : WS := (wRet (wC (.int 0)))
def w_Lcell : WS := (wSeq (wIf (wTst (wBin dLt (wVar 1) (wCB dLen (waCons (wVar 0) waNil)))) (wRet (wBin dIx (wVar 0) (wVar 1))) wNext) w_Lcell_s_1)
def w_Ldigits_l2 : WS := (wIf (wTst (wBin dGt (wVar 5) (wC (.int 0)))) (wSeq (wApp 3 (wBin dMod (wCB dInt (waCons (wVar 5) waNil)) (wC (.int 1000)))) (wSet 5 (wBin dFdiv (wVar 5) (wC (.int 1000))))) wNext)
def w_Ldigits_l3_1 : WS := (wApp 3 (wBin dMod (wCB dInt (waCons (wBin dFdiv (wVar 7) (wC (.int 997))) waNil)) (wC (.int 1000))))
def w_Ldigits_l3 : WS := (wSeq (wSet 7 (wBin dMod (wCB dInt (waCons (wBin dAdd (wBin dAdd (wBin dMul (wVar 7) (wC (.int 16807))) (wBin dMul (wC (.int 7)) (wVar 6))) (wC (.int 1))) waNil)) (wC (.int 2147483647)))) w_Ldigits_l3_1)
def w_Ldigits_l1_2 : WS := (wIf (wTst (wBin dGe (wVar 5) (wBin dPow (wC (.int 10)) (wC (.int 18))))) (wFor (wiRng1 (waCons (wC (.int 60)) waNil)) (wgName 6) w_Ldigits_l2) (wSeq (wSet 7 (wBin dMod (wCB dInt (waCons (wBin dAdd (wBin dAdd (wBin dMul (wVar 5) (wC (.int 48271))) (wBin dMul (wVar 4) (wC (.int 69621)))) (wC (.int 11))) waNil)) (wC (.int 2147483647)))) (wFor (wiRng1 (waCons (wC (.int 12)) waNil)) (wgName 6) w_Ldigits_l3)))
def w_Ldigits_l1_1 : WS := (wSeq (wIf (wTst (wBin dLt (wVar 5) (wC (.int 0)))) (wSet 5 (wBin dSub (wC (.int 1)) (wBin dMul (wC (.int 2)) (wVar 5)))) wNext) w_Ldigits_l1_2)
def w_Ldigits_l1 : WS := (wSeq (wSet 5 (wCall sp_Lcell (waCons (wVar 0) (waCons (wVar 4) waNil)))) w_Ldigits_l1_1)
def w_Ldigits_s_2 : WS := (wRet (wVar 3))
def w_Ldigits_s_1 : WS := (wSeq (wFor (wiRng2 (waCons (wVar 1) (waCons (wVar 2) waNil))) (wgName 4) w_Ldigits_l1) w_Ldigits_s_2)
def w_Ldigits : WS := (wSeq (wSet 3 (wLst waNil)) w_Ldigits_s_1)
def w_Lsame_l1 (spr : DS.Spec) : WS := (wIf (wNot (wTst (wCall spr (waCons (wBin dIx (wVar 0) (wVar 2)) (waCons (wBin dIx (wVar 1) (wVar 2)) waNil))))) (wRet (wC (.bl false))) wNext)
def w_Lsame_s_4 (spr : DS.Spec) : WS := (wRet (wAndV (wCB dIsi (waCons (wVar 0) (waCons (wC (.ty .int)) waNil))) (wAndV (wNotV (wCB dIsi (waCons (wVar 0) (waCons (wC (.ty .bool)) waNil)))) (wBin dEq (wVar 0) (wVar 1)))))
def w_Lsame_s_3 (spr : DS.Spec) : WS := (wSeq (wIf (wTst (wCB dIsi (waCons (wVar 1) (waCons (wC (.ty .str)) waNil)))) (wRet (wAndV (wCB dIsi (waCons (wVar 0) (waCons (wC (.ty .str)) waNil))) (wBin dEq (wVar 0) (wVar 1)))) wNext) (w_Lsame_s_4 spr))
def w_Lsame_s_2 (spr : DS.Spec) : WS := (wSeq (wIf (wTst (wCB dIsi (waCons (wVar 1) (waCons (wC (.ty .bool)) waNil)))) (wRet (wAndV (wCB dIsi (waCons (wVar 0) (waCons (wC (.ty .bool)) waNil))) (wBin dEq (wVar 0) (wVar 1)))) wNext) (w_Lsame_s_3 spr))
def w_Lsame_s_1 (spr : DS.Spec) : WS := (wSeq (wIf (wTst (wBin dIs (wVar 1) (wC .non))) (wRet (wBin dIs (wVar 0) (wC .non))) wNext) (w_Lsame_s_2 spr))
def w_Lsame (spr : DS.Spec) : WS := (wSeq (wIf (wOr (wTst (wCB dIsi (waCons (wVar 1) (waCons (wC (.ty .list)) waNil)))) (wTst (wCB dIsi (waCons (wVar 1) (waCons (wC (.ty .tuple)) waNil))))) (wSeq (wIf (wOr (wTst (wBin dNe (wCB dIsi (waCons (wVar 1) (waCons (wC (.ty .list)) waNil))) (wCB dIsi (waCons (wVar 0) (waCons (wC (.ty .list)) waNil))))) (wTst (wBin dNe (wCB dIsi (waCons (wVar 1) (waCons (wC (.ty .tuple)) waNil))) (wCB dIsi (waCons (wVar 0) (waCons (wC (.ty .tuple)) waNil)))))) (wRet (wC (.bl false))) wNext) (wSeq (wIf (wTst (wBin dNe (wCB dLen (waCons (wVar 0) waNil)) (wCB dLen (waCons (wVar 1) waNil)))) (wRet (wC (.bl false))) wNext) (wSeq (wFor (wiRng1 (waCons (wCB dLen (waCons (wVar 1) waNil)) waNil)) (wgName 2) (w_Lsame_l1 spr)) (wRet (wC (.bl true)))))) wNext) (w_Lsame_s_1 spr))
def w_law_l1_1 : WS := (wApp 12 (wBin dIx (wVar 14) (wC (.int 0))))
def w_law_l1 : WS := (wSeq (wSet 14 (wLc (wiSeq (wBin dIx (wVar 7) (wBin dIx (wVar 12) (wUn dNeg (wC (.int 1)))))) [17] (wgName 17) (wTst (wBin dEq (wBin dIx (wVar 11) (wVar 17)) (wBin dSub (wBin dIx (wVar 11) (wBin dIx (wVar 12) (wUn dNeg (wC (.int 1))))) (wC (.int 1))))) (wVar 17))) w_law_l1_1)
def w_law_s_17 : WS := (wRet (wAndV (wBin dEq (wBin dIx (wVar 16) (wC (.int 0))) (wVar 15)) (wBin dEq (wBin dIx (wVar 16) (wUn dNeg (wC (.int 1)))) (wBin dIx (wBin dIx (wVar 3) (wVar 10)) (wC (.int 0))))))
def w_law_s_16 : WS := (wSeq (wIf (wOr (wNot (wTst (wCall (sp_Lsame 6) (waCons (wVar 16) (waCons (wLc (wiSeq (wVar 12)) [17] (wgName 17) wtYes (wBin dIx (wBin dIx (wVar 3) (wVar 17)) (wC (.int 0)))) waNil))))) (wNot (wTst (wCall (sp_Lsame 6) (waCons (wVar 6) (waCons (wVar 3) waNil)))))) (wRet (wC (.bl false))) wNext) w_law_s_17)
def w_law_s_15 : WS := (wSeq (wSet 16 (wCall sp_told_chain (waCons (wVar 6) (waCons (wVar 4) (waCons (wBin dIx (wVar 5) (wC (.int 0))) (waCons (wBin dIx (wVar 5) (wC (.int 1))) (waCons (wVar 15) waNil))))))) w_law_s_16)
def w_law_s_14 : WS := (wSeq (wSet 15 (wBin dIx (wBin dIx (wVar 3) (wVar 8)) (wC (.int 0)))) w_law_s_15)
def w_law_s_13 : WS := (wSeq (wFor (wiRng1 (waCons (wBin dIx (wVar 11) (wVar 8)) waNil)) (wgName 13) w_law_l1) w_law_s_14)
def w_law_s_12 : WS := (wSeq (wSet 12 (wLst (waCons (wVar 8) waNil))) w_law_s_13)
def w_law_s_11 : WS := (wSeq (wSet 11 (wCall sp_Ldistances (waCons (wVar 7) (waCons (wVar 10) waNil)))) w_law_s_12)
def w_law_s_10 : WS := (wSeq (wSet 10 (wBin dIx (wLc (wiRng1 (waCons (wCB dLen (waCons (wVar 3) waNil)) waNil)) [17] (wgName 17) (wTst (wBin dLt (wBin dIx (wVar 9) (wVar 17)) (wC (.int 99)))) (wVar 17)) (wC (.int 0)))) w_law_s_11)
def w_law_s_9 : WS := (wSeq (wSet 9 (wCall sp_Ldistances (waCons (wVar 7) (waCons (wVar 8) waNil)))) w_law_s_10)
def w_law_s_8 : WS := (wFzS 7 (wSeq (wSet 8 (wCall sp_Ldraw (waCons (wVar 1) (waCons (wCB dLen (waCons (wVar 3) waNil)) waNil)))) w_law_s_9))
def w_law_s_7 : WS := (wSeq (wSet 7 (wCall sp_Lnear (waCons (wVar 3) (waCons (wVar 4) (waCons (wVar 5) waNil))))) w_law_s_8)
def w_law_s_6 : WS := (wFzS 6 (wSeq (wIf (wTst (wBin dEq (wCB dLen (waCons (wVar 3) waNil)) (wC (.int 0)))) (wRet (wC (.bl true))) wNext) w_law_s_7))
def w_law_s_5 : WS := (wSeq (wSet 6 (wCall sp_Lcopied (waCons (wVar 3) waNil))) w_law_s_6)
def w_law_s_4 : WS := (wSeq (wSet 5 (wCall sp_Lshare (waCons (wVar 1) waNil))) w_law_s_5)
def w_law_s_3 : WS := (wFzS 3 (wSeq (wSet 4 (wCall sp_Llength (waCons (wVar 1) waNil))) w_law_s_4))
def w_law_s_2 : WS := (wSeq (wSet 3 (wCall sp_Ldocuments (waCons (wVar 1) (waCons (wVar 2) waNil)))) w_law_s_3)
def w_law_s_1 : WS := (wSeq (wSet 2 (wCall sp_Lstock (waCons (wVar 1) (waCons (wC (.int 5)) waNil)))) w_law_s_2)
def w_law : WS := (wSeq (wSet 1 (wLst (waCons (wCall sp_Ldigits (waCons (wVar 0) (waCons (wC (.int 0)) (waCons (wC (.int 63)) waNil)))) (waCons (wC (.int 0)) waNil)))) w_law_s_1)
theorem pure_Lcell : ∀ as Q Qe, sp_Lcell as Q Qe → w_Lcell (ends0 as Q) (initA 2 as) := by
  rintro as Q Qe ⟨o, ns, k, rfl, hk, hq⟩
  conv => whnf
  refine br_i (fun h => ?_) (fun h => ?_)
  · rw [ds_len] at h
    conv => whnf
    refine at_int hk h ?_
    cases o <;> exact hq
  · rw [ds_len] at h
    have e : ns.getD k.toNat 0 = 0 := by
      rw [List.getD_eq_getElem?_getD, List.getElem?_eq_none (by omega)]
      rfl
    rw [e] at hq
    conv => whnf
    cases o <;> exact hq
theorem pure_Ldraw : ∀ as Q Qe, sp_Ldraw as Q Qe → w_Ldraw (ends0 as Q) (initA 3 as) := by
  rintro as Q Qe ⟨c, m, rfl, ⟨ds, n, rfl⟩, hm, hq⟩
  conv => whnf
  refine br_i (fun h => ?_) (fun h => ?_)
  · rw [ds_len] at h
    conv => whnf
    refine at_int (by omega) h ?_
    conv => whnf
    refine ⟨hm, ?_⟩
    conv => whnf
    exact hq _ _ (Int.emod_nonneg _ (by omega)) (Int.emod_lt_of_pos _ hm) ⟨ds, n + 1, rfl⟩
  · conv => whnf
    exact hq _ _ (by omega) hm ⟨ds, n + 1, rfl⟩
theorem pure_Ldigits : ∀ as Q Qe, sp_Ldigits as Q Qe → w_Ldigits (ends0 as Q) (initA 8 as) := by
  rintro as Q Qe ⟨ns, i, j, rfl, hi, hi2, hj, hj2, hq⟩
  conv => whnf
  refine ⟨Nat.zero_le _, ?_⟩
  conv => whnf
  refine ⟨by omega, ?_⟩
  conv => whnf
  refine for_r (fun n a => ∃ (ds : List Int) (x4 x5 x6 x7 : Option AV), a = [some ⟨.no, .rol (Ds ns)⟩, some ⟨.no, .int i⟩, some ⟨.no, .int j⟩, some ⟨.own, .lst (Ds ds)⟩, x4, x5, x6, x7] ∧ ds.length ≤ 60 * n) ⟨[], none, none, none, none, rfl, Nat.zero_le _⟩ ?_ ?_
  · rintro n a hn ⟨ds, x4, x5, x6, x7, rfl, hl⟩
    conv => whnf
    refine callS_i ⟨_, _, _, rfl, by omega, ?_⟩
    -- behind the reading of the cell: any int
    generalize ns.getD (i + (n : Int)).toNat 0 = c0
    conv => whnf
    -- the cell's own sign taken off
    have key : ∀ c : Int, wIf (wTst (wBin dGe (wVar 5) (wBin dPow (wC (.int 10)) (wC (.int 18))))) (wFor (wiRng1 (waCons (wC (.int 60)) waNil)) (wgName 6) (wIf (wTst (wBin dGt (wVar 5) (wC (.int 0)))) (wSeq (wApp 3 (wBin dMod (wCB dInt (waCons (wVar 5) waNil)) (wC (.int 1000))))
        (wSet 5 (wBin dFdiv (wVar 5) (wC (.int 1000))))) wNext)) (wSeq (wSet 7 (wBin dMod (wCB dInt (waCons (wBin dAdd (wBin dAdd (wBin dMul (wVar 5) (wC (.int 48271))) (wBin dMul (wVar 4) (wC (.int 69621)))) (wC (.int 11))) waNil)) (wC (.int 2147483647))))
        (wFor (wiRng1 (waCons (wC (.int 12)) waNil)) (wgName 6) (wSeq (wSet 7 (wBin dMod (wCB dInt (waCons (wBin dAdd (wBin dAdd (wBin dMul (wVar 7) (wC (.int 16807))) (wBin dMul (wC (.int 7)) (wVar 6))) (wC (.int 1))) waNil)) (wC (.int 2147483647))))
        (wApp 3 (wBin dMod (wCB dInt (waCons (wBin dFdiv (wVar 7) (wC (.int 997))) waNil)) (wC (.int 1000)))))))
        ⟨fun a => ∃ (ds : List Int) (x4 x5 x6 x7 : Option AV), a = [some ⟨.no, .rol (Ds ns)⟩, some ⟨.no, .int i⟩, some ⟨.no, .int j⟩, some ⟨.own, .lst (Ds ds)⟩, x4, x5, x6, x7] ∧ ds.length ≤ 60 * (n + 1), (ends0 [⟨.no, .rol (Ds ns)⟩, ⟨.no, .int i⟩, ⟨.no, .int j⟩] Q).rt,
          fun a => wRet (wVar 3) (ends0 [⟨.no, .rol (Ds ns)⟩, ⟨.no, .int i⟩, ⟨.no, .int j⟩] Q) a, fun a => ∃ (ds : List Int) (x4 x5 x6 x7 : Option AV), a = [some ⟨.no, .rol (Ds ns)⟩, some ⟨.no, .int i⟩, some ⟨.no, .int j⟩, some ⟨.own, .lst (Ds ds)⟩, x4, x5, x6, x7] ∧ ds.length ≤ 60 * (n + 1), (ends0 [⟨.no, .rol (Ds ns)⟩, ⟨.no, .int i⟩, ⟨.no, .int j⟩] Q).ex⟩
        [some ⟨.no, .rol (Ds ns)⟩, some ⟨.no, .int i⟩, some ⟨.no, .int j⟩, some ⟨.own, .lst (Ds ds)⟩, some ⟨.no, .int (i + (n : Int))⟩, some ⟨.no, .int c⟩, x6, x7] := by
      intro c
      conv => whnf
      refine ⟨⟨by decide, by decide, by decide⟩, ?_⟩
      conv => whnf
      refine br_i (fun h => ?_) (fun h => ?_)
      · conv => whnf
        refine ⟨by omega, ?_⟩
        conv => whnf
        refine for_r (fun m a => ∃ (ds : List Int) (c : Int) (x6 : Option AV), a = [some ⟨.no, .rol (Ds ns)⟩, some ⟨.no, .int i⟩, some ⟨.no, .int j⟩, some ⟨.own, .lst (Ds ds)⟩, some ⟨.no, .int (i + (n : Int))⟩, some ⟨.no, .int c⟩, x6, x7] ∧ ds.length ≤ 60 * n + m) ⟨ds, c, x6, rfl, by omega⟩ ?_ ?_
        · rintro m a hm ⟨ds, c, x6, rfl, hl⟩
          have hm : m < 60 := hm
          conv => whnf
          refine br_i (fun h => ?_) (fun h => ?_)
          · conv => whnf
            refine ⟨by omega, ?_⟩
            conv => whnf
            refine ⟨smaller (by rw [ds_len]; omega), ?_⟩
            conv => whnf
            refine ⟨⟨by decide, by decide⟩, ?_⟩
            exact ⟨ds ++ [c % 1000], c / 1000, _, by rw [ds_app]; rfl, by rw [List.length_append]; simp; omega⟩
          · exact ⟨ds, c, _, rfl, by omega⟩
        · rintro a ⟨ds, c, x6, rfl, hl⟩
          exact ⟨ds, _, _, _, _, rfl, by have : (60 : Int).toNat = 60 := rfl; omega⟩
      · conv => whnf
        refine ⟨cmul_r (by decide) (by decide), ?_⟩
        conv => whnf
        refine ⟨cmul_r (by decide) (by decide), ?_⟩
        conv => whnf
        refine ⟨by omega, ?_⟩
        conv => whnf
        refine ⟨by omega, ?_⟩
        conv => whnf
        refine for_r (fun m a => ∃ (ds : List Int) (c s : Int) (x6 : Option AV), a = [some ⟨.no, .rol (Ds ns)⟩, some ⟨.no, .int i⟩, some ⟨.no, .int j⟩, some ⟨.own, .lst (Ds ds)⟩, some ⟨.no, .int (i + (n : Int))⟩, some ⟨.no, .int c⟩, x6, some ⟨.no, .int s⟩] ∧ ds.length ≤ 60 * n + m) ⟨ds, c, _, x6, rfl, by omega⟩ ?_ ?_
        · rintro m a hm ⟨ds, c, s, x6, rfl, hl⟩
          have hm : m < 12 := hm
          conv => whnf
          refine ⟨cmul_r (by decide) (by decide), ?_⟩
          conv => whnf
          refine ⟨cmul_l (by decide) (by decide), ?_⟩
          conv => whnf
          refine ⟨by omega, ?_⟩
          conv => whnf
          refine ⟨⟨by decide, by decide⟩, ?_⟩
          conv => whnf
          refine ⟨by omega, ?_⟩
          conv => whnf
          refine ⟨smaller (by rw [ds_len]; omega), ?_⟩
          exact ⟨ds ++ [_], _, _, _, by rw [ds_app]; rfl, by rw [List.length_append]; simp; omega⟩
        · rintro a ⟨ds, c, s, x6, rfl, hl⟩
          exact ⟨ds, _, _, _, _, rfl, by have : (12 : Int).toNat = 12 := rfl; omega⟩
    refine br_i (fun h => ?_) (fun h => ?_)
    · conv => whnf
      refine ⟨cmul_l (by decide) (by decide), ?_⟩
      exact key _
    · exact key _
  · rintro a ⟨ds, x4, x5, x6, x7, rfl, hl⟩
    conv => whnf
    exact hq ds (by omega)
abbrev anyS : Str := " !\"#$&'()*+,-./0123456789:;<=>?@ABCDEFGHIJKLMNOPQRSTUVWXYZ[\\]^_`abcdefghijklmnopqrstuvwxyz{|}~\n"
abbrev solidS : Str := "!\"#$&'()*+,-./0123456789:;<=>?@ABCDEFGHIJKLMNOPQRSTUVWXYZ[\\]^_`abcdefghijklmnopqrstuvwxyz{|}~"
theorem pure_Lsame : ∀ n as Q Qe, sp_Lsame (n + 1) as Q Qe → w_Lsame (sp_Lsame n) (ends0 as Q) (initA 3 as) := by
  rintro n as Q Qe ⟨o, o', d, rfl, hp, hq⟩
  have seq : ∀ (xs : List D) (d : D), (d = .lst xs ∨ d = .tup xs) → (∀ x ∈ xs, ∀ m, n = m + 1 → Pl m x) → (∀ x ∈ xs, n ≠ 0) →
      forS (rangeD 0 (xs.length : Int).toNat) (wgName 2) (wIf (wNot (wTst (wCall (sp_Lsame n) (waCons (wBin dIx (wVar 0) (wVar 2)) (waCons (wBin dIx (wVar 1) (wVar 2)) waNil))))) (wRet (wC (.bl false))) wNext)
        ⟨fun a => ∃ x, a = [some ⟨o, d⟩, some ⟨o', d⟩, x], (ends0 [⟨o, d⟩, ⟨o', d⟩] Q).rt, fun _ => False, fun _ => False, fun _ _ => False⟩ [some ⟨o, d⟩, some ⟨o', d⟩, none] := by
    intro xs d hd hpl hn0
    refine for_r (fun _ a => ∃ x, a = [some ⟨o, d⟩, some ⟨o', d⟩, x]) ⟨_, rfl⟩ ?_ (fun a h => h)
    rintro i a hi ⟨x, rfl⟩
    have hi : i < xs.length := by simpa using hi
    have hx : xs[i]? = some xs[i] := List.getElem?_eq_getElem hi
    have hm : xs[i] ∈ xs := List.getElem_mem hi
    obtain ⟨m, rfl⟩ : ∃ m, n = m + 1 := ⟨n - 1, by have := hn0 _ hm; omega⟩
    have go : ∀ {f : D → Prop}, f xs[i] → onO (atI xs (0 + (i : Int))) f := fun hf => onO_of (atI_of (by omega) (by rw [show (0 + (i : Int)).toNat = i by omega]; exact hx)) hf
    rcases hd with rfl | rfl
    all_goals
      conv => whnf
      refine go ?_
      conv => whnf
      refine go ?_
      conv => whnf
      refine callS_i ⟨_, _, _, rfl, hpl _ hm m rfl, ?_⟩
      exact ⟨_, rfl⟩
  have fin : ∀ {b : Bool}, b = true → ∀ {r : Prop}, (Q ⟨.no, .bl b⟩ [⟨o, d⟩, ⟨o', d⟩] → r) → r := fun {b} e r k => k (by rw [e]; exact hq)
  cases d with
  | non => conv => whnf
           cases o <;> cases o' <;> exact hq
  | bl b =>
    conv => whnf
    refine fin (b := decide (b = b)) (decide_eq_true rfl) fun hq => ?_
    cases o <;> cases o' <;> exact hq
  | int b =>
    conv => whnf
    refine fin (b := decide (b = b)) (decide_eq_true rfl) fun hq => ?_
    cases o <;> cases o' <;> exact hq
  | str b =>
    conv => whnf
    refine fin (b := decide (b = b)) (decide_eq_true rfl) fun hq => ?_
    cases o <;> cases o' <;> exact hq
  | lst xs =>
    cases n with
    | zero => exact hp.elim
    | succ n =>
      obtain ⟨hl, hp⟩ := hp
      conv => whnf
      refine br_nt rfl ?_
      conv => whnf
      refine ⟨by omega, ?_⟩
      conv => whnf
      obtain ⟨Inv, h0, hs, he⟩ := for_d (seq xs (.lst xs) (.inl rfl) (fun x hx m e => by cases e; exact hp x hx) (fun x hx => by omega))
      refine for_i Inv h0 hs fun a h => ?_
      obtain ⟨x, rfl⟩ := he a h
      conv => whnf
      cases o <;> cases o' <;> exact hq
  | tup xs =>
    cases n with
    | zero => exact hp.elim
    | succ n =>
      obtain ⟨hl, hp⟩ := hp
      conv => whnf
      refine br_nt rfl ?_
      conv => whnf
      refine ⟨by omega, ?_⟩
      conv => whnf
      obtain ⟨Inv, h0, hs, he⟩ := for_d (seq xs (.tup xs) (.inr rfl) (fun x hx m e => by cases e; exact hp x hx) (fun x hx => by omega))
      refine for_i Inv h0 hs fun a h => ?_
      obtain ⟨x, rfl⟩ := he a h
      conv => whnf
      cases o <;> cases o' <;> exact hq
  | _ => cases n <;> exact hp.elim
theorem ms_app (v w : List Nat) : ms v ++ ms w = ms (v ++ w) := by
  show Str.mk (v.toArray ++ w.toArray) = Str.mk (v ++ w).toArray
  rw [List.append_toArray]
theorem ms_len (w : List Nat) : (ms w).length = w.length := rfl
theorem solid_at : ∀ r : Nat, r < 93 → ∃ x, solidS.cps.toList[r]? = some x ∧ solid x := by
  have h : ∀ r : Nat, r < 93 → (match solidS.cps.toList[r]? with | some x => decide (33 ≤ x ∧ x < 127 ∧ x ≠ 37) | none => false) = true := by decide +kernel
  intro r hr
  have := h r hr
  split at this
  · have t := of_decide_eq_true this
    exact ⟨_, by assumption, t⟩
  · cases this
theorem pure_Lsolid : ∀ as Q Qe, sp_Lsolid as Q Qe → w_Lsolid (ends0 as Q) (initA 2 as) := by
  rintro as Q Qe ⟨c, rfl, hb, hq⟩
  conv => whnf
  refine callS_i ⟨_, _, rfl, hb, by omega, fun r bx r_0 r_1 hb => ?_⟩
  (try simp only [putBack, hold, resOf, initA, keepNo, wipeA, List.set_cons_zero, List.set_cons_succ, List.getElem?_cons_zero, List.getElem?_cons_succ, List.map_cons, List.map_nil, List.replicate_succ, List.replicate_zero, List.length_cons, List.length_nil, List.cons_append, List.nil_append, Nat.reduceSub, Nat.reduceAdd, Nat.zero_add, List.replicate])
  conv => whnf
  refine ⟨by decide +kernel, ?_⟩
  obtain ⟨x, h2, h3⟩ := solid_at r.toNat (by omega)
  refine onO_of (atI_of r_0 h2) ?_
  conv => whnf
  exact hq x _ h3 hb
theorem pure_Lword : ∀ as Q Qe, sp_Lword as Q Qe → w_Lword (ends0 as Q) (initA 4 as) := by
  rintro as Q Qe ⟨c, m, rfl, hb, hm, hm2, hq⟩
  conv => whnf
  refine ⟨(by first | omega | exact ⟨by omega, by omega⟩ | exact small (by simp only [List.length_cons, List.length_nil, List.length_append, List.length_map, ds_len, DS.rangeD_len]; try omega) | exact smaller (by simp only [List.length_cons, List.length_nil, List.length_append, List.length_map, ds_len, DS.rangeD_len]; omega) | exact cmul_r (by decide) (by decide) | exact cmul_l (by decide) (by decide) | exact ⟨by decide, by decide⟩ | exact cmul_l (by omega) (by omega) | exact cmul_r (by omega) (by omega) | (simp only [List.length_cons, List.length_nil, List.length_append, List.length_map, ds_len]; omega)), ?_⟩
  conv => whnf
  refine for_r (fun i a => ∃ (c : D) (w : List Nat) (x3 : Option AV), a = [some ⟨.lent, c⟩, some ⟨.no, .int m⟩, some ⟨.no, .str (ms w)⟩, x3] ∧ isBox c ∧ w.length = i ∧ ∀ x ∈ w, solid x) ⟨c, [], none, rfl, hb, rfl, by simp⟩ ?_ ?_
  · rintro i a hi ⟨c, w, x3, rfl, hb, hl, hs⟩
    conv => whnf
    refine callS_i ⟨_, rfl, hb, fun x c hx hb => ?_⟩
    (try simp only [putBack, hold, resOf, initA, keepNo, wipeA, List.set_cons_zero, List.set_cons_succ, List.getElem?_cons_zero, List.getElem?_cons_succ, List.map_cons, List.map_nil, List.replicate_succ, List.replicate_zero, List.length_cons, List.length_nil, List.cons_append, List.nil_append, Nat.reduceSub, Nat.reduceAdd, Nat.zero_add, List.replicate])
    conv => whnf
    refine ⟨small (by simp only [ms_len, List.length_cons, List.length_nil]; omega), ?_⟩
    refine ⟨c, w ++ [x], _, by rw [ms_app]; rfl, hb, by rw [List.length_append, hl]; rfl, ?_⟩
    intro y hy
    rcases List.mem_append.mp hy with h | h
    · exact hs y h
    · rw [List.mem_singleton.mp h]; exact hx
  · rintro a ⟨c, w, x3, rfl, hb, hl, hs⟩
    conv => whnf
    exact hq w c (by omega) hs hb

theorem ms_inj {v w : List Nat} (h : ms v = ms w) : v = w := by
  have h2 : (ms v).cps.toList = (ms w).cps.toList := by rw [h]
  exact h2
theorem ky_inj : ∀ {L M : Ln}, ky L = ky M → L = M
  | [], [], _ => rfl
  | [], _ :: _, h => by cases h
  | _ :: _, [], h => by cases h
  | w :: L, v :: M, h => by
    have h1 : (Sum.inr (ms w) : L2.Key) = Sum.inr (ms v) := (List.cons.inj h).1
    have h2 : ky L = ky M := (List.cons.inj h).2
    rw [ms_inj (Sum.inr.inj h1), ky_inj h2]
theorem wD_inj {v w : List Nat} (h : wD v = wD w) : v = w := ms_inj (D.str.inj h)
theorem lnD_inj {L M : Ln} (h : lnD L = lnD M) : L = M := (List.map_inj_right fun a b e => wD_inj e).mp (D.lst.inj h)
theorem keys_line : ∀ L : Ln, keysD (L.map wD) = some (ky L)
  | [] => rfl
  | w :: L => by
    show keysD (wD w :: L.map wD) = _
    rw [keysD, keys_line L]
    rfl
theorem look_line (kvs : List (List L2.Key × D)) (L : Ln) : lookD (.dT kvs) (.tup (L.map wD)) = some (valD kvs (ky L)) := by
  show (keysD (L.map wD)).map (valD kvs) = _
  rw [keys_line]
  rfl
theorem mem_dd : ∀ (acc xs : List Ln) (l : Ln), l ∈ dd acc xs ↔ l ∈ acc ∨ l ∈ xs
  | acc, [], l => by simp [dd]
  | acc, x :: xs, l => by
    unfold dd
    rw [mem_dd _ xs l, List.mem_cons]
    by_cases h : x ∈ acc
    · rw [if_pos h]
      constructor
      · rintro (h1 | h1)
        · exact .inl h1
        · exact .inr (.inr h1)
      · rintro (h1 | h1 | h1)
        · exact .inl h1
        · subst h1; exact .inl h
        · exact .inr h1
    · rw [if_neg h, List.mem_append, List.mem_singleton]
      constructor
      · rintro ((h1 | h1) | h1)
        · exact .inl h1
        · exact .inr (.inl h1)
        · exact .inr (.inr h1)
      · rintro (h1 | h1 | h1)
        · exact .inl (.inl h1)
        · exact .inl (.inr h1)
        · exact .inr h1
theorem dd_snoc : ∀ (acc xs : List Ln) (l : Ln), dd acc (xs ++ [l]) = if l ∈ dd acc xs then dd acc xs else dd acc xs ++ [l]
  | acc, [], l => rfl
  | acc, x :: xs, l => by
    show dd _ (xs ++ [l]) = if l ∈ dd _ xs then dd _ xs else dd _ xs ++ [l]
    exact dd_snoc _ xs l
theorem dd_len : ∀ (acc xs : List Ln), (dd acc xs).length ≤ acc.length + xs.length
  | acc, [] => Nat.le_refl _
  | acc, x :: xs => by
    have := dd_len (if x ∈ acc then acc else acc ++ [x]) xs
    have h : (if x ∈ acc then acc else acc ++ [x]).length ≤ acc.length + 1 := by
      split
      · omega
      · simp
    show (dd _ xs).length ≤ acc.length + (xs.length + 1)
    omega
theorem put_keys {kvs : List (List L2.Key × D)} {k : List L2.Key} {v : D} : (k ∈ kvs.map (·.1) → (putD kvs k v).map (·.1) = kvs.map (·.1)) ∧ (k ∉ kvs.map (·.1) → (putD kvs k v).map (·.1) = kvs.map (·.1) ++ [k]) := by
  unfold putD
  have e : (kvs.any fun kv => decide (kv.1 = k)) = true ↔ k ∈ kvs.map (·.1) := by
    rw [List.any_eq_true, List.mem_map]
    constructor
    · rintro ⟨p, hp, h⟩; exact ⟨p, hp, of_decide_eq_true h⟩
    · rintro ⟨p, hp, h⟩; exact ⟨p, hp, decide_eq_true h⟩
  refine ⟨fun h => ?_, fun h => ?_⟩
  · rw [if_pos (e.mpr h), List.map_map]
    apply List.map_congr_left
    intro p _
    show (if p.1 = k then (p.1, v) else p).1 = p.1
    split <;> rfl
  · rw [if_neg (fun z => h (e.mp z)), List.map_append]
    rfl
theorem mem_ky {ks : List Ln} {L : Ln} : ky L ∈ ks.map ky ↔ L ∈ ks := by
  rw [List.mem_map]
  constructor
  · rintro ⟨M, hM, e⟩; rw [← ky_inj e]; exact hM
  · intro h; exact ⟨L, h, rfl⟩

theorem cut_line (p : Ln) (k n : Nat) : cutDs (p.map wD) (some (0 + (k : Int))) (some (0 + (k : Int) + n)) = ((p.drop k).take n).map wD := by
  rw [cut_midD _ (by omega) (by omega), show (0 + (k : Int)).toNat = k by omega, show (0 + (k : Int) + n).toNat = k + n by omega, Nat.add_sub_cancel_left, ← List.map_drop, ← List.map_take]
theorem shA_take {n : Nat} {ps : List Ln} {i : Nat} {p : Ln} (h : ps[i]? = some p) : shA n (ps.take (i + 1)) = shA n (ps.take i) ++ shP n p := by
  unfold shA
  rw [List.take_add_one, h, Option.toList_some, List.map_append, List.flatten_append]
  simp
theorem shP_take {n : Nat} {p : Ln} {j : Nat} (h : j < shN p n) : (shP n p).take (j + 1) = (shP n p).take j ++ [(p.drop j).take n] := by
  have : (shP n p)[j]? = some ((p.drop j).take n) := by
    unfold shP
    rw [List.getElem?_map, List.getElem?_range h]
    rfl
  rw [List.take_add_one, this]
  rfl
theorem shP_len (n : Nat) (p : Ln) : (shP n p).length = shN p n := by simp [shP]
theorem shN_le {n : Nat} {p : Ln} (h : p.length ≤ 100) : shN p n ≤ 101 := by
  unfold shN
  split <;> omega
theorem shA_len {n : Nat} : ∀ {ps : List Ln}, (∀ p ∈ ps, p.length ≤ 100) → (shA n ps).length ≤ ps.length * 101
  | [], _ => Nat.zero_le _
  | p :: ps, h => by
    have h1 := shA_len (n := n) fun q hq => h q (List.mem_cons_of_mem p hq)
    have h2 := shN_le (n := n) (h p (List.mem_cons_self ..))
    show (shP n p ++ shA n ps).length ≤ _
    rw [List.length_append, shP_len, List.length_cons]
    omega
theorem shP_ok {n : Nat} {p L : Ln} (h : ∀ w ∈ p, okW w) (hL : L ∈ shP n p) : ∀ w ∈ L, okW w := by
  obtain ⟨k, _, rfl⟩ := List.mem_map.mp hL
  intro w hw
  exact h w (List.mem_of_mem_drop (List.mem_of_mem_take hw))
theorem dd_more (X : List Ln) (L : Ln) : dd [] (X ++ [L]) = if L ∈ dd [] X then dd [] X else dd [] X ++ [L] := dd_snoc [] X L
theorem pure_shingles : ∀ as Q Qe, sp_shingles as Q Qe → w_shingles (ends0 as Q) (initA 7 as) := by
  rintro as Q Qe ⟨ps, n, rfl, ⟨hp, hps⟩, hn, hn2, hq⟩
  conv => whnf
  refine ⟨(by first | omega | exact ⟨by omega, by omega⟩ | exact small (by simp only [List.length_cons, List.length_nil, List.length_append, List.length_map, ds_len, DS.rangeD_len]; try omega) | exact smaller (by simp only [List.length_cons, List.length_nil, List.length_append, List.length_map, ds_len, DS.rangeD_len]; omega) | exact cmul_r (by decide) (by decide) | exact cmul_l (by decide) (by decide) | exact ⟨by decide, by decide⟩ | exact cmul_l (by omega) (by omega) | exact cmul_r (by omega) (by omega) | (simp only [List.length_cons, List.length_nil, List.length_append, List.length_map, ds_len]; omega)), ?_⟩
  conv => whnf
  refine for_i (fun i a => ∃ (seen : List (List L2.Key × D)) (x4 x5 x6 : Option AV), a = [some ⟨.no, .lst (ps.map lnD)⟩, some ⟨.no, .int n⟩, some ⟨.own, .dT seen⟩, some ⟨.own, .lst ((dd [] (shA n (ps.take i))).map tupL)⟩, x4, x5, x6] ∧ (∀ L, (valD seen (ky L)).isSome = decide (L ∈ shA n (ps.take i))) ∧ seen.length ≤ 101 * i) ⟨[], none, none, none, rfl, fun L => by simp [valD_nil, shA], Nat.zero_le _⟩ ?_ ?_
  · rintro i a d hi ⟨seen, x4, x5, x6, rfl, hs, hsl⟩
    rw [List.getElem?_map, Option.map_eq_some_iff] at hi
    obtain ⟨p, hpi, rfl⟩ := hi
    have hil := (List.getElem?_eq_some_iff.mp hpi).1
    obtain ⟨hp1, hp2⟩ := hps p (List.mem_of_getElem? hpi)
    have hsn := shN_le (n := n) hp1
    have hXl := shA_len (n := n) (ps := ps.take i) fun q hq => (hps q (List.mem_of_mem_take hq)).1
    have hti : (ps.take i).length ≤ 10 := by rw [List.length_take]; omega
    generalize hX : shA n (ps.take i) = X at *
    have hend := shA_take (n := n) hpi
    rw [hX] at hend
    conv => whnf
    refine ⟨by rw [List.length_map]; split <;> omega, ?_⟩
    rw [List.length_map]
    (try simp only [putBack, hold, resOf, initA, keepNo, wipeA, List.set_cons_zero, List.set_cons_succ, List.getElem?_cons_zero, List.getElem?_cons_succ, List.map_cons, List.map_nil, List.replicate_succ, List.replicate_zero, List.length_cons, List.length_nil, List.cons_append, List.nil_append, Nat.reduceSub, Nat.reduceAdd, Nat.zero_add, List.replicate])
    conv => whnf
    refine for_r (fun j a => ∃ (seen : List (List L2.Key × D)) (x5 x6 : Option AV), a = [some ⟨.no, .lst (ps.map lnD)⟩, some ⟨.no, .int n⟩, some ⟨.own, .dT seen⟩, some ⟨.own, .lst ((dd [] (X ++ (shP n p).take j)).map tupL)⟩, some ⟨.no, lnD p⟩, x5, x6] ∧ (∀ L, (valD seen (ky L)).isSome = decide (L ∈ X ++ (shP n p).take j)) ∧ seen.length ≤ 101 * i + j) ⟨seen, x5, x6, by rw [List.take_zero, List.append_nil], by rw [List.take_zero, List.append_nil]; exact hs, by omega⟩ ?_ ?_
    · rintro j a hj ⟨seen, x5, x6, rfl, hs, hsl⟩
      have hj : j < shN p n := hj
      have htk := shP_take hj
      have hXl2 := dd_len [] (X ++ (shP n p).take j)
      rw [List.length_append, List.length_take] at hXl2
      simp only [List.length_nil] at hXl2
      have hi10 : i ≤ 10 := by omega
      obtain ⟨L, hL⟩ : ∃ L, (p.drop j).take n = L := ⟨_, rfl⟩
      rw [hL] at htk
      conv => whnf
      skip
      rw [cut_line, hL]
      conv => whnf
      refine onO_of (look_line seen L) ?_
      have hnext : dd [] (X ++ (shP n p).take (j + 1)) = if L ∈ dd [] (X ++ (shP n p).take j) then dd [] (X ++ (shP n p).take j) else dd [] (X ++ (shP n p).take j) ++ [L] := by
        rw [htk, ← List.append_assoc, dd_more]
      have hmem : L ∈ dd [] (X ++ (shP n p).take j) ↔ L ∈ X ++ (shP n p).take j := by
        rw [mem_dd]
        simp
      conv => whnf
      refine br_b (fun h => ?_) (fun h => ?_)
      · have hno : L ∉ X ++ (shP n p).take j := by
          have h : (!(valD seen (ky L)).isSome) = true := h
          rw [hs L] at h
          simpa using h
        conv => whnf
        refine onO_of (keys_line L) ?_
        conv => whnf
        refine ⟨smaller (by omega), ?_⟩
        (try simp only [putBack, hold, resOf, initA, keepNo, wipeA, List.set_cons_zero, List.set_cons_succ, List.getElem?_cons_zero, List.getElem?_cons_succ, List.map_cons, List.map_nil, List.replicate_succ, List.replicate_zero, List.length_cons, List.length_nil, List.cons_append, List.nil_append, Nat.reduceSub, Nat.reduceAdd, Nat.zero_add, List.replicate])
        conv => whnf
        refine ⟨smaller (by rw [List.length_map]; omega), ?_⟩
        refine ⟨_, _, _, by rw [hnext, if_neg fun z => hno (hmem.mp z), List.map_append]; rfl, fun M => ?_, by have := putD_len seen (ky L) (.bl true : D); omega⟩
        rw [valD_put, htk, ← List.append_assoc]
        by_cases z : M = L
        · subst z
          simp
        · rw [if_neg fun y => z (ky_inj y), hs M]
          simp [z]
      · have hin : L ∈ X ++ (shP n p).take j := by
          have h : (!(valD seen (ky L)).isSome) = false := h
          have h2 : (valD seen (ky L)).isSome = true := by
            cases hv : (valD seen (ky L)).isSome with
            | true => rfl
            | false => rw [hv] at h; cases h
          rw [hs L] at h2
          exact of_decide_eq_true h2
        refine ⟨_, _, _, by rw [hnext, if_pos (hmem.mpr hin)]; rfl, fun M => ?_, by omega⟩
        rw [hs M, htk, ← List.append_assoc]
        by_cases z : M = L
        · subst z; simp only [hin, List.mem_append, List.mem_singleton, or_true, decide_true]
        · simp [z]
    · rintro a ⟨seen, x5, x6, rfl, hs, hsl⟩
      have e9 : (shP n p).take (if (1 : Int) < (p.length : Int) - n + 1 then (p.length : Int) - n + 1 else 1).toNat = shP n p := List.take_of_length_le (by rw [shP_len]; exact Nat.le_refl _)
      have e9' : (if (p.length : Int) - n + 1 > 1 then (p.length : Int) - n + 1 else 1).toNat = (if (1 : Int) < (p.length : Int) - n + 1 then (p.length : Int) - n + 1 else 1).toNat := rfl
      rw [e9', e9] at hs
      rw [e9', e9, ← hend]
      refine ⟨seen, _, _, _, rfl, ?_, ?_⟩
      · rw [hend]; exact hs
      · have : (if (p.length : Int) - n + 1 > 1 then (p.length : Int) - n + 1 else 1).toNat = shN p n := rfl
        omega
  · rintro a ⟨seen, x4, x5, x6, rfl, hs, hsl⟩
    rw [List.length_map, List.take_length]
    conv => whnf
    exact hq
theorem nb_line {L : Ln} (h : ∀ w ∈ L, okW w) : Nb 1 (lnD L) := by
  intro d hd
  obtain ⟨w, hw, rfl⟩ := List.mem_map.mp hd
  exact h w hw
theorem pure_Lshingles : ∀ as Q Qe, sp_Lshingles as Q Qe → w_Lshingles (ends0 as Q) (initA 6 as) := by
  rintro as Q Qe ⟨ps, n, rfl, ⟨hp, hps⟩, hn, hn2, hq⟩
  have hokA : ∀ i L, L ∈ shA n (ps.take i) → ∀ w ∈ L, okW w := by
    intro i L hL
    obtain ⟨X, hX, hLX⟩ := List.mem_flatten.mp hL
    obtain ⟨p, hp', rfl⟩ := List.mem_map.mp hX
    exact shP_ok (hps p (List.mem_of_mem_take hp')).2 hLX
  conv => whnf
  refine ⟨(by first | omega | exact ⟨by omega, by omega⟩ | exact small (by simp only [List.length_cons, List.length_nil, List.length_append, List.length_map, ds_len, DS.rangeD_len]; try omega) | exact smaller (by simp only [List.length_cons, List.length_nil, List.length_append, List.length_map, ds_len, DS.rangeD_len]; omega) | exact cmul_r (by decide) (by decide) | exact cmul_l (by decide) (by decide) | exact ⟨by decide, by decide⟩ | exact cmul_l (by omega) (by omega) | exact cmul_r (by omega) (by omega) | (simp only [List.length_cons, List.length_nil, List.length_append, List.length_map, ds_len]; omega)), ?_⟩
  conv => whnf
  refine for_i (fun i a => ∃ (x3 x4 x5 : Option AV), a = [some ⟨.no, .lst (ps.map lnD)⟩, some ⟨.no, .int n⟩, some ⟨.own, .lst ((dd [] (shA n (ps.take i))).map lnD)⟩, x3, x4, x5]) ⟨none, none, none, rfl⟩ ?_ ?_
  · rintro i a d hi ⟨x3, x4, x5, rfl⟩
    rw [List.getElem?_map, Option.map_eq_some_iff] at hi
    obtain ⟨p, hpi, rfl⟩ := hi
    obtain ⟨hp1, hp2⟩ := hps p (List.mem_of_getElem? hpi)
    have hsn := shN_le (n := n) hp1
    have hXl := shA_len (n := n) (ps := ps.take i) fun q hq => (hps q (List.mem_of_mem_take hq)).1
    have hti : (ps.take i).length ≤ 10 := by rw [List.length_take]; omega
    have hokX := hokA i
    generalize hX : shA n (ps.take i) = X at *
    have hend := shA_take (n := n) hpi
    rw [hX] at hend
    conv => whnf
    refine ⟨by rw [List.length_map]; split <;> omega, ?_⟩
    rw [List.length_map]
    (try simp only [putBack, hold, resOf, initA, keepNo, wipeA, List.set_cons_zero, List.set_cons_succ, List.getElem?_cons_zero, List.getElem?_cons_succ, List.map_cons, List.map_nil, List.replicate_succ, List.replicate_zero, List.length_cons, List.length_nil, List.cons_append, List.nil_append, Nat.reduceSub, Nat.reduceAdd, Nat.zero_add, List.replicate])
    conv => whnf
    refine for_r (fun j a => ∃ (x4 x5 : Option AV), a = [some ⟨.no, .lst (ps.map lnD)⟩, some ⟨.no, .int n⟩, some ⟨.own, .lst ((dd [] (X ++ (shP n p).take j)).map lnD)⟩, some ⟨.no, lnD p⟩, x4, x5]) ⟨x4, x5, by rw [List.take_zero, List.append_nil]⟩ ?_ ?_
    · rintro j a hj ⟨x4, x5, rfl⟩
      have hj : j < shN p n := hj
      have htk := shP_take hj
      have hXl2 := dd_len [] (X ++ (shP n p).take j)
      rw [List.length_append, List.length_take] at hXl2
      simp only [List.length_nil] at hXl2
      obtain ⟨L, hL⟩ : ∃ L, (p.drop j).take n = L := ⟨_, rfl⟩
      have hLok : ∀ w ∈ L, okW w := by
        intro w hw
        rw [← hL] at hw
        exact hp2 w (List.mem_of_mem_drop (List.mem_of_mem_take hw))
      rw [hL] at htk
      have hnext : dd [] (X ++ (shP n p).take (j + 1)) = if L ∈ dd [] (X ++ (shP n p).take j) then dd [] (X ++ (shP n p).take j) else dd [] (X ++ (shP n p).take j) ++ [L] := by
        rw [htk, ← List.append_assoc, dd_more]
      have hnb : ∀ y ∈ (dd [] (X ++ (shP n p).take j)).map lnD, Nb 1 y := by
        intro y hy
        obtain ⟨M, hM, rfl⟩ := List.mem_map.mp hy
        rw [mem_dd] at hM
        rcases hM with h | h
        · cases h
        · rcases List.mem_append.mp h with h | h
          · exact nb_line (hokX M h)
          · exact nb_line (shP_ok hp2 (List.mem_of_mem_take h))
      have hmem : lnD L ∈ (dd [] (X ++ (shP n p).take j)).map lnD ↔ L ∈ dd [] (X ++ (shP n p).take j) := by
        rw [List.mem_map]
        exact ⟨fun ⟨M, hM, e⟩ => lnD_inj e ▸ hM, fun h => ⟨L, h, rfl⟩⟩
      conv => whnf
      skip
      rw [cut_line, hL]
      conv => whnf
      refine in_nb (n := 1) (x := lnD L) (ys := (dd [] (X ++ (shP n p).take j)).map lnD) (nb_line hLok) hnb (by decide) (fun h => ?_) (fun h => ?_)
      · (try simp only [putBack, hold, resOf, initA, keepNo, wipeA, List.set_cons_zero, List.set_cons_succ, List.getElem?_cons_zero, List.getElem?_cons_succ, List.map_cons, List.map_nil, List.replicate_succ, List.replicate_zero, List.length_cons, List.length_nil, List.cons_append, List.nil_append, Nat.reduceSub, Nat.reduceAdd, Nat.zero_add, List.replicate])
        conv => whnf
        refine ⟨some ⟨.no, .int (0 + (j : Int))⟩, some ⟨.own, lnD L⟩, ?_⟩
        rw [hnext, if_pos (hmem.mp h)]
        rfl
      · (try simp only [putBack, hold, resOf, initA, keepNo, wipeA, List.set_cons_zero, List.set_cons_succ, List.getElem?_cons_zero, List.getElem?_cons_succ, List.map_cons, List.map_nil, List.replicate_succ, List.replicate_zero, List.length_cons, List.length_nil, List.cons_append, List.nil_append, Nat.reduceSub, Nat.reduceAdd, Nat.zero_add, List.replicate])
        conv => whnf
        refine ⟨smaller (by rw [List.length_map]; omega), ?_⟩
        conv => whnf
        refine ⟨some ⟨.no, .int (0 + (j : Int))⟩, some ⟨.no, lnD L⟩, ?_⟩
        rw [hnext, if_neg fun z => h (hmem.mpr z), List.map_append]
        rfl
    · rintro a ⟨x4, x5, rfl⟩
      have e9 : (shP n p).take (if (1 : Int) < (p.length : Int) - n + 1 then (p.length : Int) - n + 1 else 1).toNat = shP n p := List.take_of_length_le (by rw [shP_len]; exact Nat.le_refl _)
      have e9' : (if (p.length : Int) - n + 1 > 1 then (p.length : Int) - n + 1 else 1).toNat = (if (1 : Int) < (p.length : Int) - n + 1 then (p.length : Int) - n + 1 else 1).toNat := rfl
      rw [e9', e9, ← hend]
      exact ⟨_, _, _, rfl⟩
  · rintro a ⟨x3, x4, x5, rfl⟩
    rw [List.length_map, List.take_length]
    conv => whnf
    exact hq
theorem ok_word {w : List Nat} (h : ∀ x ∈ w, solid x) : okW w := by
  show PyData.strOk (ms w) = true
  simp only [PyData.strOk, List.all_toArray, List.all_eq_true, decide_eq_true_eq]
  intro x hx
  have := (h x hx).2.1
  omega
theorem pure_Llength : ∀ as Q Qe, sp_Llength as Q Qe → w_Llength (ends0 as Q) (initA 1 as) := by
  rintro as Q Qe ⟨c, rfl, hb, hq⟩
  conv => whnf
  refine callS_i ⟨_, _, rfl, hb, by omega, fun r bx r_0 r_1 hb => ?_⟩
  (try simp only [putBack, hold, resOf, initA, keepNo, wipeA, List.set_cons_zero, List.set_cons_succ, List.getElem?_cons_zero, List.getElem?_cons_succ, List.map_cons, List.map_nil, List.replicate_succ, List.replicate_zero, List.length_cons, List.length_nil, List.cons_append, List.nil_append, Nat.reduceSub, Nat.reduceAdd, Nat.zero_add, List.replicate])
  conv => whnf
  refine br_i (fun h => ?_) (fun h => ?_)
  · conv => whnf
    refine callS_i ⟨_, _, rfl, hb, by omega, fun m bx m_0 m_1 hb => ?_⟩
    (try simp only [putBack, hold, resOf, initA, keepNo, wipeA, List.set_cons_zero, List.set_cons_succ, List.getElem?_cons_zero, List.getElem?_cons_succ, List.map_cons, List.map_nil, List.replicate_succ, List.replicate_zero, List.length_cons, List.length_nil, List.cons_append, List.nil_append, Nat.reduceSub, Nat.reduceAdd, Nat.zero_add, List.replicate])
    have e : (1 + m : Int) = ((1 + m).toNat : Nat) := by omega
    have := hq (1 + m).toNat bx (by omega) (by omega) hb
    rw [← e] at this
    conv => whnf
    exact this
  · (try simp only [putBack, hold, resOf, initA, keepNo, wipeA, List.set_cons_zero, List.set_cons_succ, List.getElem?_cons_zero, List.getElem?_cons_succ, List.map_cons, List.map_nil, List.replicate_succ, List.replicate_zero, List.length_cons, List.length_nil, List.cons_append, List.nil_append, Nat.reduceSub, Nat.reduceAdd, Nat.zero_add, List.replicate])
    conv => whnf
    refine callS_i ⟨_, _, rfl, hb, by omega, fun m bx m_0 m_1 hb => ?_⟩
    (try simp only [putBack, hold, resOf, initA, keepNo, wipeA, List.set_cons_zero, List.set_cons_succ, List.getElem?_cons_zero, List.getElem?_cons_succ, List.map_cons, List.map_nil, List.replicate_succ, List.replicate_zero, List.length_cons, List.length_nil, List.cons_append, List.nil_append, Nat.reduceSub, Nat.reduceAdd, Nat.zero_add, List.replicate])
    have e : (1 + m : Int) = ((1 + m).toNat : Nat) := by omega
    have := hq (1 + m).toNat bx (by omega) (by omega) hb
    rw [← e] at this
    conv => whnf
    exact this
theorem pure_Lstock : ∀ as Q Qe, sp_Lstock as Q Qe → w_Lstock (ends0 as Q) (initA 7 as) := by
  rintro as Q Qe ⟨c, rfl, hb, hq⟩
  conv => whnf
  refine ⟨(by first | omega | exact ⟨by omega, by omega⟩ | exact small (by simp only [List.length_cons, List.length_nil, List.length_append, List.length_map, ds_len, DS.rangeD_len]; try omega) | exact smaller (by simp only [List.length_cons, List.length_nil, List.length_append, List.length_map, ds_len, DS.rangeD_len]; omega) | exact cmul_r (by decide) (by decide) | exact cmul_l (by decide) (by decide) | exact ⟨by decide, by decide⟩ | exact cmul_l (by omega) (by omega) | exact cmul_r (by omega) (by omega) | (simp only [List.length_cons, List.length_nil, List.length_append, List.length_map, ds_len]; omega)), ?_⟩
  conv => whnf
  refine callS_i ⟨_, _, rfl, hb, by omega, fun m1 bx m1_0 m1_1 hb => ?_⟩
  (try simp only [putBack, hold, resOf, initA, keepNo, wipeA, List.set_cons_zero, List.set_cons_succ, List.getElem?_cons_zero, List.getElem?_cons_succ, List.map_cons, List.map_nil, List.replicate_succ, List.replicate_zero, List.length_cons, List.length_nil, List.cons_append, List.nil_append, Nat.reduceSub, Nat.reduceAdd, Nat.zero_add, List.replicate])
  conv => whnf
  refine callS_i ⟨_, _, rfl, hb, by omega, by omega, fun w1 c hw1 hs1 hb => ?_⟩
  (try simp only [putBack, hold, resOf, initA, keepNo, wipeA, List.set_cons_zero, List.set_cons_succ, List.getElem?_cons_zero, List.getElem?_cons_succ, List.map_cons, List.map_nil, List.replicate_succ, List.replicate_zero, List.length_cons, List.length_nil, List.cons_append, List.nil_append, Nat.reduceSub, Nat.reduceAdd, Nat.zero_add, List.replicate])
  conv => whnf
  refine callS_i ⟨_, _, rfl, hb, by omega, fun m2 bx m2_0 m2_1 hb => ?_⟩
  (try simp only [putBack, hold, resOf, initA, keepNo, wipeA, List.set_cons_zero, List.set_cons_succ, List.getElem?_cons_zero, List.getElem?_cons_succ, List.map_cons, List.map_nil, List.replicate_succ, List.replicate_zero, List.length_cons, List.length_nil, List.cons_append, List.nil_append, Nat.reduceSub, Nat.reduceAdd, Nat.zero_add, List.replicate])
  conv => whnf
  refine callS_i ⟨_, _, rfl, hb, by omega, by omega, fun w2 c hw2 hs2 hb => ?_⟩
  (try simp only [putBack, hold, resOf, initA, keepNo, wipeA, List.set_cons_zero, List.set_cons_succ, List.getElem?_cons_zero, List.getElem?_cons_succ, List.map_cons, List.map_nil, List.replicate_succ, List.replicate_zero, List.length_cons, List.length_nil, List.cons_append, List.nil_append, Nat.reduceSub, Nat.reduceAdd, Nat.zero_add, List.replicate])
  conv => whnf
  refine ⟨(by first | omega | exact ⟨by omega, by omega⟩ | exact small (by simp only [List.length_cons, List.length_nil, List.length_append, List.length_map, ds_len, DS.rangeD_len]; try omega) | exact smaller (by simp only [List.length_cons, List.length_nil, List.length_append, List.length_map, ds_len, DS.rangeD_len]; omega) | exact cmul_r (by decide) (by decide) | exact cmul_l (by decide) (by decide) | exact ⟨by decide, by decide⟩ | exact cmul_l (by omega) (by omega) | exact cmul_r (by omega) (by omega) | (simp only [List.length_cons, List.length_nil, List.length_append, List.length_map, ds_len]; omega)), ?_⟩
  conv => whnf
  refine for_r (fun i a => ∃ (c : D) (st : List (List Nat)) (x5 x6 : Option AV), a = [some ⟨.lent, c⟩, some ⟨.no, .int 5⟩, some ⟨.own, .lst (st.map wD)⟩, some ⟨.no, .str (ms w1)⟩, some ⟨.no, .str (ms w2)⟩, x5, x6] ∧ isBox c ∧ (i = 0 ∨ 0 < st.length) ∧ st.length ≤ i ∧ ∀ w ∈ st, okW w) ⟨c, [], none, none, rfl, hb, .inl rfl, Nat.le_refl _, by simp⟩ ?_ ?_
  · rintro i a hi ⟨c, st, x5, x6, rfl, hb, h0, hl, hs⟩
    have hi : i < 5 := hi
    conv => whnf
    refine callS_i ⟨_, rfl, hb, fun x c hx hb => ?_⟩
    (try simp only [putBack, hold, resOf, initA, keepNo, wipeA, List.set_cons_zero, List.set_cons_succ, List.getElem?_cons_zero, List.getElem?_cons_succ, List.map_cons, List.map_nil, List.replicate_succ, List.replicate_zero, List.length_cons, List.length_nil, List.cons_append, List.nil_append, Nat.reduceSub, Nat.reduceAdd, Nat.zero_add, List.replicate])
    conv => whnf
    refine ⟨small (by show w1.length + 1 ≤ _; omega), ?_⟩
    rw [ms_app]
    conv => whnf
    refine ⟨small (by rw [ms_len, ms_len, List.length_append]; simp; omega), ?_⟩
    rw [ms_app]
    (try simp only [putBack, hold, resOf, initA, keepNo, wipeA, List.set_cons_zero, List.set_cons_succ, List.getElem?_cons_zero, List.getElem?_cons_succ, List.map_cons, List.map_nil, List.replicate_succ, List.replicate_zero, List.length_cons, List.length_nil, List.cons_append, List.nil_append, Nat.reduceSub, Nat.reduceAdd, Nat.zero_add, List.replicate])
    have hok : okW (w1 ++ [x] ++ w2) := ok_word fun y hy => by
      rcases List.mem_append.mp hy with h | h
      · rcases List.mem_append.mp h with h | h
        · exact hs1 y h
        · rw [List.mem_singleton.mp h]; exact hx
      · exact hs2 y h
    generalize w1 ++ [x] ++ w2 = w at *
    conv => whnf
    refine ⟨_, rfl, rfl, by rw [List.all_eq_true]; intro d hd; obtain ⟨p, _, rfl⟩ := List.mem_map.mp hd; rfl, ?_⟩
    conv => whnf
    refine br_b (fun h => ?_) (fun h => ?_)
    · (try simp only [putBack, hold, resOf, initA, keepNo, wipeA, List.set_cons_zero, List.set_cons_succ, List.getElem?_cons_zero, List.getElem?_cons_succ, List.map_cons, List.map_nil, List.replicate_succ, List.replicate_zero, List.length_cons, List.length_nil, List.cons_append, List.nil_append, Nat.reduceSub, Nat.reduceAdd, Nat.zero_add, List.replicate])
      conv => whnf
      refine ⟨smaller (by rw [List.length_map]; omega), ?_⟩
      refine ⟨c, st ++ [w], _, _, by rw [List.map_append]; rfl, hb, .inr (by simp), by rw [List.length_append]; simp; omega, ?_⟩
      intro v hv
      rcases List.mem_append.mp hv with h2 | h2
      · exact hs v h2
      · rw [List.mem_singleton.mp h2]; exact hok
    · refine ⟨c, st, _, _, rfl, hb, .inr ?_, by omega, hs⟩
      cases st with
      | nil =>
        exfalso
        have h : (!(([] : List D).any fun d => scEq d (.str (ms w)))) = false := h
        cases h
      | cons _ _ => simp
  · rintro a ⟨c, st, x5, x6, rfl, hb, h0, hl, hs⟩
    have hl : st.length ≤ 5 := hl
    have h1 : 0 < st.length := h0.elim (fun h => absurd h (by decide)) id
    conv => whnf
    exact hq st c ⟨h1, by omega, hs⟩ hb
theorem at_st {st : List (List Nat)} {r : Int} {f : D → Prop} (h0 : 0 ≤ r) (h1 : r < st.length) (hf : ∀ w, w ∈ st → f (wD w)) : onO (atI (st.map wD) r) f := by
  obtain ⟨w, hw⟩ : ∃ w, st[r.toNat]? = some w := ⟨_, List.getElem?_eq_getElem (by omega)⟩
  exact onO_of (atI_of (v := wD w) h0 (by rw [List.getElem?_map, hw]; rfl)) (hf w (List.mem_of_getElem? hw))
theorem pure_Lpiece : ∀ as Q Qe, sp_Lpiece as Q Qe → w_Lpiece (ends0 as Q) (initA 5 as) := by
  rintro as Q Qe ⟨o, c, st, rfl, rfl, hb, ⟨s1, s2, s3⟩, hq⟩
  conv => whnf
  refine callS_i ⟨_, _, rfl, hb, by omega, fun many bx many_0 many_1 hb => ?_⟩
  (try simp only [putBack, hold, resOf, initA, keepNo, wipeA, List.set_cons_zero, List.set_cons_succ, List.getElem?_cons_zero, List.getElem?_cons_succ, List.map_cons, List.map_nil, List.replicate_succ, List.replicate_zero, List.length_cons, List.length_nil, List.cons_append, List.nil_append, Nat.reduceSub, Nat.reduceAdd, Nat.zero_add, List.replicate])
  conv => whnf
  refine callS_i ⟨_, _, rfl, hb, by omega, fun r bx r_0 r_1 hb => ?_⟩
  (try simp only [putBack, hold, resOf, initA, keepNo, wipeA, List.set_cons_zero, List.set_cons_succ, List.getElem?_cons_zero, List.getElem?_cons_succ, List.map_cons, List.map_nil, List.replicate_succ, List.replicate_zero, List.length_cons, List.length_nil, List.cons_append, List.nil_append, Nat.reduceSub, Nat.reduceAdd, Nat.zero_add, List.replicate])
  conv => whnf
  refine br_i (fun h => ?_) (fun h => ?_)
  · (try simp only [putBack, hold, resOf, initA, keepNo, wipeA, List.set_cons_zero, List.set_cons_succ, List.getElem?_cons_zero, List.getElem?_cons_succ, List.map_cons, List.map_nil, List.replicate_succ, List.replicate_zero, List.length_cons, List.length_nil, List.cons_append, List.nil_append, Nat.reduceSub, Nat.reduceAdd, Nat.zero_add, List.replicate])
    conv => whnf
    refine callS_i ⟨_, _, rfl, hb, by rw [List.length_map]; omega, fun r bx r_0 r_1 hb => ?_⟩
    (try simp only [putBack, hold, resOf, initA, keepNo, wipeA, List.set_cons_zero, List.set_cons_succ, List.getElem?_cons_zero, List.getElem?_cons_succ, List.map_cons, List.map_nil, List.replicate_succ, List.replicate_zero, List.length_cons, List.length_nil, List.cons_append, List.nil_append, Nat.reduceSub, Nat.reduceAdd, Nat.zero_add, List.replicate])
    rw [List.length_map] at r_1
    conv => whnf
    refine at_st r_0 r_1 fun w hw => ?_
    (try simp only [putBack, hold, resOf, initA, keepNo, wipeA, List.set_cons_zero, List.set_cons_succ, List.getElem?_cons_zero, List.getElem?_cons_succ, List.map_cons, List.map_nil, List.replicate_succ, List.replicate_zero, List.length_cons, List.length_nil, List.cons_append, List.nil_append, Nat.reduceSub, Nat.reduceAdd, Nat.zero_add, List.replicate])
    conv => whnf
    refine callS_i ⟨_, _, rfl, hb, by omega, fun m bx m_0 m_1 hb => ?_⟩
    (try simp only [putBack, hold, resOf, initA, keepNo, wipeA, List.set_cons_zero, List.set_cons_succ, List.getElem?_cons_zero, List.getElem?_cons_succ, List.map_cons, List.map_nil, List.replicate_succ, List.replicate_zero, List.length_cons, List.length_nil, List.cons_append, List.nil_append, Nat.reduceSub, Nat.reduceAdd, Nat.zero_add, List.replicate])
    conv => whnf
    refine ⟨(by first | omega | exact ⟨by omega, by omega⟩ | exact small (by simp only [List.length_cons, List.length_nil, List.length_append, List.length_map, ds_len, DS.rangeD_len]; try omega) | exact smaller (by simp only [List.length_cons, List.length_nil, List.length_append, List.length_map, ds_len, DS.rangeD_len]; omega) | exact cmul_r (by decide) (by decide) | exact cmul_l (by decide) (by decide) | exact ⟨by decide, by decide⟩ | exact cmul_l (by omega) (by omega) | exact cmul_r (by omega) (by omega) | (simp only [List.length_cons, List.length_nil, List.length_append, List.length_map, ds_len]; omega)), ?_⟩
    conv => whnf
    refine lc_i (fun j acc a => ∃ (x4 : Option AV), a = [some ⟨.lent, bx⟩, some ⟨.lent, .lst (st.map wD)⟩, some ⟨.no, .int (1 + many)⟩, some ⟨.no, wD w⟩, x4] ∧ acc = (List.replicate j w).map wD) ⟨none, rfl, rfl⟩ ?_ ?_
    · rintro j acc a d hj ⟨x4, rfl, rfl⟩
      obtain ⟨hj, rfl⟩ := rangeD_get.mp hj
      conv => whnf
      refine ⟨smaller (by rw [List.length_map, List.length_replicate]; omega), _, rfl, by rw [List.replicate_succ', List.map_append]; rfl⟩
    · rintro acc a ⟨x4, rfl, rfl⟩
      rw [rangeD_len]
      conv => whnf
      exact hq (List.replicate _ w) _ (by rw [List.length_replicate]; omega) (fun v hv => by rw [(List.mem_replicate.mp hv).2]; exact s3 w hw) hb
  · (try simp only [putBack, hold, resOf, initA, keepNo, wipeA, List.set_cons_zero, List.set_cons_succ, List.getElem?_cons_zero, List.getElem?_cons_succ, List.map_cons, List.map_nil, List.replicate_succ, List.replicate_zero, List.length_cons, List.length_nil, List.cons_append, List.nil_append, Nat.reduceSub, Nat.reduceAdd, Nat.zero_add, List.replicate])
    conv => whnf
    refine ⟨(by first | omega | exact ⟨by omega, by omega⟩ | exact small (by simp only [List.length_cons, List.length_nil, List.length_append, List.length_map, ds_len, DS.rangeD_len]; try omega) | exact smaller (by simp only [List.length_cons, List.length_nil, List.length_append, List.length_map, ds_len, DS.rangeD_len]; omega) | exact cmul_r (by decide) (by decide) | exact cmul_l (by decide) (by decide) | exact ⟨by decide, by decide⟩ | exact cmul_l (by omega) (by omega) | exact cmul_r (by omega) (by omega) | (simp only [List.length_cons, List.length_nil, List.length_append, List.length_map, ds_len]; omega)), ?_⟩
    conv => whnf
    refine lc_i (fun j acc a => ∃ (c : D) (p : Ln) (x4 : Option AV), a = [some ⟨.lent, c⟩, some ⟨.lent, .lst (st.map wD)⟩, some ⟨.no, .int (1 + many)⟩, none, x4] ∧ isBox c ∧ acc = p.map wD ∧ p.length = j ∧ ∀ w ∈ p, okW w) ⟨bx, [], none, rfl, hb, rfl, rfl, by simp⟩ ?_ ?_
    · rintro j acc a d hj ⟨c, p, x4, rfl, hb, rfl, hl, hp⟩
      obtain ⟨hj, rfl⟩ := rangeD_get.mp hj
      conv => whnf
      refine callS_i ⟨_, _, rfl, hb, by rw [List.length_map]; omega, fun r bx r_0 r_1 hb => ?_⟩
      (try simp only [putBack, hold, resOf, initA, keepNo, wipeA, List.set_cons_zero, List.set_cons_succ, List.getElem?_cons_zero, List.getElem?_cons_succ, List.map_cons, List.map_nil, List.replicate_succ, List.replicate_zero, List.length_cons, List.length_nil, List.cons_append, List.nil_append, Nat.reduceSub, Nat.reduceAdd, Nat.zero_add, List.replicate])
      rw [List.length_map] at r_1
      conv => whnf
      refine at_st r_0 r_1 fun w hw => ?_
      conv => whnf
      refine ⟨smaller (by rw [List.length_map]; omega), bx, p ++ [w], _, rfl, hb, by rw [List.map_append]; rfl, by rw [List.length_append, hl]; rfl, ?_⟩
      intro v hv
      rcases List.mem_append.mp hv with h2 | h2
      · exact hp v h2
      · rw [List.mem_singleton.mp h2]; exact s3 w hw
    · rintro acc a ⟨c, p, x4, rfl, hb, rfl, hl, hp⟩
      rw [rangeD_len] at hl
      conv => whnf
      exact hq p c (by omega) hp hb
theorem pl_line {n : Nat} {p : Ln} (h : p.length ≤ 1000) : Pl (n + 1) (lnD p) ∧ Pl (n + 1) (tupL p) := by
  refine ⟨⟨by rw [List.length_map]; omega, fun z hz => ?_⟩, ⟨by rw [List.length_map]; omega, fun z hz => ?_⟩⟩
  · obtain ⟨w, hw, rfl⟩ := List.mem_map.mp hz
    exact pl_str _ _
  · obtain ⟨w, hw, rfl⟩ := List.mem_map.mp hz
    exact pl_str _ _

theorem dd_nodup : ∀ (acc xs : List Ln), acc.Nodup → (dd acc xs).Nodup
  | acc, [], h => h
  | acc, x :: xs, h => by
    show (dd (if x ∈ acc then acc else acc ++ [x]) xs).Nodup
    refine dd_nodup _ xs ?_
    split
    · exact h
    · rename_i hx
      exact List.nodup_append.mpr ⟨h, by simp, by
        intro a ha b hb e
        rw [List.mem_singleton] at hb
        exact hx (hb ▸ e ▸ ha)⟩
theorem shs_nodup (n : Nat) (ps : List Ln) : (shs n ps).Nodup := dd_nodup [] _ List.nodup_nil
theorem nodup_sub : ∀ {A B : List Ln}, A.Nodup → (∀ L ∈ A, L ∈ B) → A.length ≤ B.length
  | [], _, _, _ => Nat.zero_le _
  | x :: A, B, h, hs => by
    obtain ⟨h1, h2⟩ := List.nodup_cons.mp h
    have hx := hs x (List.mem_cons_self ..)
    have := nodup_sub (B := B.erase x) h2 fun L hL => by
      have hne : L ≠ x := fun e => h1 (e ▸ hL)
      exact (List.mem_erase_of_ne hne).mpr (hs L (List.mem_cons_of_mem _ hL))
    rw [List.length_erase_of_mem hx] at this
    have hp := List.length_pos_of_mem hx
    rw [List.length_cons]
    omega
theorem com_symm (n : Nat) (ps qs : List Ln) : com n ps qs = com n qs ps := by
  have key : ∀ (A B : List Ln), A.Nodup → B.Nodup → (B.filter fun L => decide (L ∈ A)).length ≤ (A.filter fun L => decide (L ∈ B)).length := by
    intro A B hA hB
    refine nodup_sub (hB.sublist List.filter_sublist) ?_
    intro L hL
    rw [List.mem_filter] at hL ⊢
    exact ⟨of_decide_eq_true hL.2, decide_eq_true hL.1⟩
  exact Nat.le_antisymm (key _ _ (shs_nodup n ps) (shs_nodup n qs)) (key _ _ (shs_nodup n qs) (shs_nodup n ps))
theorem tog_symm (n : Nat) (ps qs : List Ln) : tog n ps qs = tog n qs ps := by
  unfold tog
  rw [com_symm n ps qs]
  omega
theorem com_self (n : Nat) (ps : List Ln) : com n ps ps = (shs n ps).length := by
  unfold com
  rw [List.filter_eq_self.mpr fun L hL => decide_eq_true hL]
theorem tog_self (n : Nat) (ps : List Ln) : tog n ps ps = (shs n ps).length := by
  unfold tog
  rw [com_self]
  omega
theorem shs_len {n : Nat} {ps : List Ln} (h : Pieces ps) : (shs n ps).length ≤ 1010 := by
  have h1 := dd_len [] (shA n ps)
  have h2 := shA_len (n := n) fun p hp => (h.2 p hp).1
  have h3 := h.1
  simp only [List.length_nil] at h1
  show (dd [] (shA n ps)).length ≤ 1010
  omega
theorem com_le (n : Nat) (ps qs : List Ln) : com n ps qs ≤ (shs n qs).length := List.length_filter_le ..
theorem shs_ok {n : Nat} {ps : List Ln} (h : Pieces ps) {L : Ln} (hL : L ∈ shs n ps) : ∀ w ∈ L, okW w := by
  rw [mem_dd] at hL
  rcases hL with z | z
  · cases z
  · obtain ⟨X, hX, hLX⟩ := List.mem_flatten.mp z
    obtain ⟨p, hp, rfl⟩ := List.mem_map.mp hX
    exact shP_ok (h.2 p hp).2 hLX
theorem take_filter {α : Type} {l : List α} {i : Nat} {x : α} (p : α → Bool) (h : l[i]? = some x) : (l.take (i + 1)).filter p = (l.take i).filter p ++ if p x = true then [x] else [] := by
  rw [List.take_add_one, h, Option.toList_some, List.filter_append]
  congr 1
  by_cases e : p x = true
  · rw [if_pos e, List.filter_cons_of_pos e]; rfl
  · rw [if_neg e, List.filter_cons_of_neg e]; rfl
theorem pure_Lcompared : ∀ as Q Qe, sp_Lcompared as Q Qe → w_Lcompared (ends0 as Q) (initA 7 as) := by
  rintro as Q Qe ⟨ps, qs, n, rfl, hp, hq', hn, hn2, hq⟩
  have l1 := shs_len (n := n) hp
  have l2 := shs_len (n := n) hq'
  conv => whnf
  refine callS_i ⟨_, _, rfl, hp, hn, hn2, ?_⟩
  (try simp only [putBack, hold, resOf, initA, keepNo, wipeA, List.set_cons_zero, List.set_cons_succ, List.getElem?_cons_zero, List.getElem?_cons_succ, List.map_cons, List.map_nil, List.replicate_succ, List.replicate_zero, List.length_cons, List.length_nil, List.cons_append, List.nil_append, Nat.reduceSub, Nat.reduceAdd, Nat.zero_add, List.replicate])
  conv => whnf
  refine callS_i ⟨_, _, rfl, hq', hn, hn2, ?_⟩
  (try simp only [putBack, hold, resOf, initA, keepNo, wipeA, List.set_cons_zero, List.set_cons_succ, List.getElem?_cons_zero, List.getElem?_cons_succ, List.map_cons, List.map_nil, List.replicate_succ, List.replicate_zero, List.length_cons, List.length_nil, List.cons_append, List.nil_append, Nat.reduceSub, Nat.reduceAdd, Nat.zero_add, List.replicate])
  conv => whnf
  refine lc_i (fun i acc a => ∃ (x : Option AV), acc = (((shs n qs).take i).filter fun L => decide (L ∈ shs n ps)).map lnD ∧ a = [some ⟨.no, .lst (ps.map lnD)⟩, some ⟨.no, .lst (qs.map lnD)⟩, some ⟨.no, .int n⟩, some ⟨.own, .lst ((shs n ps).map lnD)⟩, some ⟨.no, .lst ((shs n qs).map lnD)⟩, none, x]) ⟨none, rfl, rfl⟩ ?_ ?_
  · rintro i acc a d hi ⟨x, rfl, rfl⟩
    rw [List.getElem?_map, Option.map_eq_some_iff] at hi
    obtain ⟨L, hL, rfl⟩ := hi
    have hfl : (((shs n qs).take i).filter fun L => decide (L ∈ shs n ps)).length ≤ 1010 := by
      have h1 := List.length_filter_le (fun L => decide (L ∈ shs n ps)) ((shs n qs).take i)
      rw [List.length_take] at h1
      omega
    have hnext := take_filter (fun L => decide (L ∈ shs n ps)) hL
    have hmem : lnD L ∈ (shs n ps).map lnD ↔ L ∈ shs n ps := by
      rw [List.mem_map]
      exact ⟨fun ⟨M, hM, e⟩ => lnD_inj e ▸ hM, fun h => ⟨L, h, rfl⟩⟩
    conv => whnf
    refine in_nb (n := 1) (x := lnD L) (ys := (shs n ps).map lnD) (nb_line (shs_ok hq' (List.mem_of_getElem? hL))) ?_ (by decide) (fun h => ?_) (fun h => ?_)
    · intro y hy
      obtain ⟨M, hM, rfl⟩ := List.mem_map.mp hy
      exact nb_line (shs_ok hp hM)
    · conv => whnf
      refine ⟨smaller (by rw [List.length_map]; omega), _, ?_, rfl⟩
      rw [hnext, if_pos (decide_eq_true (hmem.mp h)), List.map_append]
      rfl
    · refine ⟨_, ?_, rfl⟩
      rw [hnext, if_neg (by rw [decide_eq_false fun z => h (hmem.mpr z)]; decide), List.append_nil]
  · rintro acc a ⟨x, rfl, rfl⟩
    rw [List.length_map, List.take_length]
    have e : ((((shs n qs).filter fun L => decide (L ∈ shs n ps)).map lnD).length : Int) = com n ps qs := by rw [List.length_map]; rfl
    (try simp only [putBack, hold, resOf, initA, keepNo, wipeA, List.set_cons_zero, List.set_cons_succ, List.getElem?_cons_zero, List.getElem?_cons_succ, List.map_cons, List.map_nil, List.replicate_succ, List.replicate_zero, List.length_cons, List.length_nil, List.cons_append, List.nil_append, Nat.reduceSub, Nat.reduceAdd, Nat.zero_add, List.replicate])
    conv => whnf
    rw [e]
    (try simp only [putBack, hold, resOf, initA, keepNo, wipeA, List.set_cons_zero, List.set_cons_succ, List.getElem?_cons_zero, List.getElem?_cons_succ, List.map_cons, List.map_nil, List.replicate_succ, List.replicate_zero, List.length_cons, List.length_nil, List.cons_append, List.nil_append, Nat.reduceSub, Nat.reduceAdd, Nat.zero_add, List.replicate])
    have e2 : ((((shs n ps).map lnD).length : Int) + (((shs n qs).map lnD).length : Int) - (com n ps qs : Int)) = tog n ps qs := by rw [List.length_map, List.length_map]; rfl
    conv => whnf
    rw [e2]
    conv => whnf
    refine ⟨smaller (by omega), ?_⟩
    conv => whnf
    exact hq
theorem pure_Lshare : ∀ as Q Qe, sp_Lshare as Q Qe → w_Lshare (ends0 as Q) (initA 2 as) := by
  rintro as Q Qe ⟨c, rfl, hb, hq⟩
  conv => whnf
  refine callS_i ⟨_, _, rfl, hb, by omega, fun m bx m_0 m_1 hb => ?_⟩
  (try simp only [putBack, hold, resOf, initA, keepNo, wipeA, List.set_cons_zero, List.set_cons_succ, List.getElem?_cons_zero, List.getElem?_cons_succ, List.map_cons, List.map_nil, List.replicate_succ, List.replicate_zero, List.length_cons, List.length_nil, List.cons_append, List.nil_append, Nat.reduceSub, Nat.reduceAdd, Nat.zero_add, List.replicate])
  conv => whnf
  refine callS_i ⟨_, _, rfl, hb, by omega, fun r bx r_0 r_1 hb => ?_⟩
  (try simp only [putBack, hold, resOf, initA, keepNo, wipeA, List.set_cons_zero, List.set_cons_succ, List.getElem?_cons_zero, List.getElem?_cons_succ, List.map_cons, List.map_nil, List.replicate_succ, List.replicate_zero, List.length_cons, List.length_nil, List.cons_append, List.nil_append, Nat.reduceSub, Nat.reduceAdd, Nat.zero_add, List.replicate])
  conv => whnf
  refine br_i (fun h => ?_) (fun h => ?_)
  · (try simp only [putBack, hold, resOf, initA, keepNo, wipeA, List.set_cons_zero, List.set_cons_succ, List.getElem?_cons_zero, List.getElem?_cons_succ, List.map_cons, List.map_nil, List.replicate_succ, List.replicate_zero, List.length_cons, List.length_nil, List.cons_append, List.nil_append, Nat.reduceSub, Nat.reduceAdd, Nat.zero_add, List.replicate])
    conv => whnf
    refine callS_i ⟨_, _, rfl, hb, by omega, fun r2 bx r2_0 r2_1 hb => ?_⟩
    (try simp only [putBack, hold, resOf, initA, keepNo, wipeA, List.set_cons_zero, List.set_cons_succ, List.getElem?_cons_zero, List.getElem?_cons_succ, List.map_cons, List.map_nil, List.replicate_succ, List.replicate_zero, List.length_cons, List.length_nil, List.cons_append, List.nil_append, Nat.reduceSub, Nat.reduceAdd, Nat.zero_add, List.replicate])
    conv => whnf
    refine ⟨(by first | omega | exact ⟨by omega, by omega⟩ | exact small (by simp only [List.length_cons, List.length_nil, List.length_append, List.length_map, ds_len, DS.rangeD_len]; try omega) | exact smaller (by simp only [List.length_cons, List.length_nil, List.length_append, List.length_map, ds_len, DS.rangeD_len]; omega) | exact cmul_r (by decide) (by decide) | exact cmul_l (by decide) (by decide) | exact ⟨by decide, by decide⟩ | exact cmul_l (by omega) (by omega) | exact cmul_r (by omega) (by omega) | (simp only [List.length_cons, List.length_nil, List.length_append, List.length_map, ds_len]; omega)), ?_⟩
    conv => whnf
    exact hq (1 + r2) 1000 _ (by omega) (by omega) (by omega) hb
  · (try simp only [putBack, hold, resOf, initA, keepNo, wipeA, List.set_cons_zero, List.set_cons_succ, List.getElem?_cons_zero, List.getElem?_cons_succ, List.map_cons, List.map_nil, List.replicate_succ, List.replicate_zero, List.length_cons, List.length_nil, List.cons_append, List.nil_append, Nat.reduceSub, Nat.reduceAdd, Nat.zero_add, List.replicate])
    conv => whnf
    refine callS_i ⟨_, _, rfl, hb, by omega, fun r2 bx r2_0 r2_1 hb => ?_⟩
    (try simp only [putBack, hold, resOf, initA, keepNo, wipeA, List.set_cons_zero, List.set_cons_succ, List.getElem?_cons_zero, List.getElem?_cons_succ, List.map_cons, List.map_nil, List.replicate_succ, List.replicate_zero, List.length_cons, List.length_nil, List.cons_append, List.nil_append, Nat.reduceSub, Nat.reduceAdd, Nat.zero_add, List.replicate])
    conv => whnf
    refine ⟨(by first | omega | exact ⟨by omega, by omega⟩ | exact small (by simp only [List.length_cons, List.length_nil, List.length_append, List.length_map, ds_len, DS.rangeD_len]; try omega) | exact smaller (by simp only [List.length_cons, List.length_nil, List.length_append, List.length_map, ds_len, DS.rangeD_len]; omega) | exact cmul_r (by decide) (by decide) | exact cmul_l (by decide) (by decide) | exact ⟨by decide, by decide⟩ | exact cmul_l (by omega) (by omega) | exact cmul_r (by omega) (by omega) | (simp only [List.length_cons, List.length_nil, List.length_append, List.length_map, ds_len]; omega)), ?_⟩
    conv => whnf
    exact hq (1 + r2) (1 + m) _ (by omega) (by omega) (by omega) hb

theorem pure_compare : ∀ as Q Qe, sp_compare as Q Qe → w_compare (ends0 as Q) (initA 11 as) := by
  rintro as Q Qe ⟨ps, qs, n, p, q, rfl, hp, hq', hn, hn2, p1, pq, q1, hq⟩
  have l1 := shs_len (n := n) hp
  have l2 := shs_len (n := n) hq'
  conv => whnf
  refine callS_i ⟨_, _, rfl, hp, hn, hn2, ?_⟩
  (try simp only [putBack, hold, resOf, initA, keepNo, wipeA, List.set_cons_zero, List.set_cons_succ, List.getElem?_cons_zero, List.getElem?_cons_succ, List.map_cons, List.map_nil, List.replicate_succ, List.replicate_zero, List.length_cons, List.length_nil, List.cons_append, List.nil_append, Nat.reduceSub, Nat.reduceAdd, Nat.zero_add, List.replicate])
  conv => whnf
  refine dc_i (fun i acc a => ∃ (kvs : List (List L2.Key × D)) (x : Option AV), acc = .dT kvs ∧ a = [some ⟨.no, .lst (ps.map lnD)⟩, some ⟨.no, .lst (qs.map lnD)⟩, some ⟨.no, .int n⟩, some ⟨.no, .int p⟩, some ⟨.no, .int q⟩, some ⟨.no, .lst ((shs n ps).map tupL)⟩, none, none, none, none, x] ∧ (∀ L, (valD kvs (ky L)).isSome = decide (L ∈ (shs n ps).take i)) ∧ kvs.length ≤ i) ⟨[], none, rfl, rfl, fun L => by simp [valD_nil], Nat.zero_le _⟩ ?_ ?_
  · rintro i acc a d hi ⟨kvs, x, rfl, rfl, hv, hl⟩
    rw [List.getElem?_map, Option.map_eq_some_iff] at hi
    obtain ⟨L, hL, rfl⟩ := hi
    have hil := (List.getElem?_eq_some_iff.mp hL).1
    have hil : i < 1011 := by
      have : i < (shs n ps).length := hil
      omega
    conv => whnf
    refine onO_of (keys_line L) ?_
    conv => whnf
    refine ⟨smaller (by omega), _, _, rfl, rfl, fun M => ?_, by have := putD_len kvs (ky L) (.bl true : D); omega⟩
    rw [valD_put, List.take_add_one, hL, Option.toList_some]
    by_cases z : M = L
    · subst z
      simp
    · rw [if_neg fun y => z (ky_inj y), hv M]
      simp [z]
  · rintro acc a ⟨kvs, x, rfl, rfl, hv, hl⟩
    rw [List.length_map, List.take_length] at hv
    (try simp only [putBack, hold, resOf, initA, keepNo, wipeA, List.set_cons_zero, List.set_cons_succ, List.getElem?_cons_zero, List.getElem?_cons_succ, List.map_cons, List.map_nil, List.replicate_succ, List.replicate_zero, List.length_cons, List.length_nil, List.cons_append, List.nil_append, Nat.reduceSub, Nat.reduceAdd, Nat.zero_add, List.replicate])
    conv => whnf
    refine callS_i ⟨_, _, rfl, hq', hn, hn2, ?_⟩
    (try simp only [putBack, hold, resOf, initA, keepNo, wipeA, List.set_cons_zero, List.set_cons_succ, List.getElem?_cons_zero, List.getElem?_cons_succ, List.map_cons, List.map_nil, List.replicate_succ, List.replicate_zero, List.length_cons, List.length_nil, List.cons_append, List.nil_append, Nat.reduceSub, Nat.reduceAdd, Nat.zero_add, List.replicate])
    conv => whnf
    refine lc_i (fun i acc a => ∃ (x : Option AV), acc = (((shs n qs).take i).filter fun L => decide (L ∈ shs n ps)).map tupL ∧ a = [some ⟨.no, .lst (ps.map lnD)⟩, some ⟨.no, .lst (qs.map lnD)⟩, some ⟨.no, .int n⟩, some ⟨.no, .int p⟩, some ⟨.no, .int q⟩, some ⟨.no, .lst ((shs n ps).map tupL)⟩, some ⟨.own, .dT kvs⟩, some ⟨.no, .lst ((shs n qs).map tupL)⟩, none, none, x]) ⟨none, rfl, rfl⟩ ?_ ?_
    · rintro i acc a d hi ⟨x, rfl, rfl⟩
      rw [List.getElem?_map, Option.map_eq_some_iff] at hi
      obtain ⟨L, hL, rfl⟩ := hi
      have hfl : (((shs n qs).take i).filter fun L => decide (L ∈ shs n ps)).length ≤ 1010 := by
        have h1 := List.length_filter_le (fun L => decide (L ∈ shs n ps)) ((shs n qs).take i)
        rw [List.length_take] at h1
        omega
      have hnext := take_filter (fun L => decide (L ∈ shs n ps)) hL
      conv => whnf
      refine onO_of (look_line kvs L) ?_
      conv => whnf
      refine br_b (fun h => ?_) (fun h => ?_)
      · have h : (valD kvs (ky L)).isSome = true := h
        rw [hv L] at h
        conv => whnf
        refine ⟨smaller (by rw [List.length_map]; omega), _, ?_, rfl⟩
        rw [hnext, if_pos h, List.map_append]
        rfl
      · have h : (valD kvs (ky L)).isSome = false := h
        rw [hv L] at h
        refine ⟨_, ?_, rfl⟩
        rw [hnext, if_neg (by rw [h]; decide), List.append_nil]
    · rintro acc a ⟨x, rfl, rfl⟩
      rw [List.length_map, List.take_length]
      have hc := com_le n ps qs
      have e : ((((shs n qs).filter fun L => decide (L ∈ shs n ps)).map tupL).length : Int) = com n ps qs := by rw [List.length_map]; rfl
      (try simp only [putBack, hold, resOf, initA, keepNo, wipeA, List.set_cons_zero, List.set_cons_succ, List.getElem?_cons_zero, List.getElem?_cons_succ, List.map_cons, List.map_nil, List.replicate_succ, List.replicate_zero, List.length_cons, List.length_nil, List.cons_append, List.nil_append, Nat.reduceSub, Nat.reduceAdd, Nat.zero_add, List.replicate])
      conv => whnf
      rw [e]
      (try simp only [putBack, hold, resOf, initA, keepNo, wipeA, List.set_cons_zero, List.set_cons_succ, List.getElem?_cons_zero, List.getElem?_cons_succ, List.map_cons, List.map_nil, List.replicate_succ, List.replicate_zero, List.length_cons, List.length_nil, List.cons_append, List.nil_append, Nat.reduceSub, Nat.reduceAdd, Nat.zero_add, List.replicate])
      have e2 : ((((shs n ps).map tupL).length : Int) + (((shs n qs).map tupL).length : Int) - (com n ps qs : Int)) = tog n ps qs := by rw [List.length_map, List.length_map]; rfl
      conv => whnf
      rw [e2]
      (try simp only [putBack, hold, resOf, initA, keepNo, wipeA, List.set_cons_zero, List.set_cons_succ, List.getElem?_cons_zero, List.getElem?_cons_succ, List.map_cons, List.map_nil, List.replicate_succ, List.replicate_zero, List.length_cons, List.length_nil, List.cons_append, List.nil_append, Nat.reduceSub, Nat.reduceAdd, Nat.zero_add, List.replicate])
      conv => whnf
      refine ⟨cmul_l (by omega) (by omega), ?_⟩
      conv => whnf
      refine ⟨cmul_l (by omega) (by omega), ?_⟩
      conv => whnf
      refine ⟨(by first | omega | exact ⟨by omega, by omega⟩ | exact small (by simp only [List.length_cons, List.length_nil, List.length_append, List.length_map, ds_len, DS.rangeD_len]; try omega) | exact smaller (by simp only [List.length_cons, List.length_nil, List.length_append, List.length_map, ds_len, DS.rangeD_len]; omega) | exact cmul_r (by decide) (by decide) | exact cmul_l (by decide) (by decide) | exact ⟨by decide, by decide⟩ | exact cmul_l (by omega) (by omega) | exact cmul_r (by omega) (by omega) | (simp only [List.length_cons, List.length_nil, List.length_append, List.length_map, ds_len]; omega)), ?_⟩
      conv => whnf
      exact hq

theorem valD_addT {κ : Type} [DecidableEq κ] (T : List (κ × List D)) (k j : κ) (d : D) : valD (addT T k d) j = if j = k then some ((valD T k).getD [] ++ [d]) else valD T j := by
  have hnot : ∀ (T : List (κ × List D)) (j : κ), j ≠ k → valD (T.map fun e => if e.1 = k then (e.1, e.2 ++ [d]) else e) j = valD T j := by
    intro T j hj
    induction T with
    | nil => rfl
    | cons y T ih =>
      rw [List.map_cons]
      by_cases hy : y.1 = k
      · rw [if_pos hy, valD_cons, valD_cons, ih, if_neg (fun z => hj (by rw [← z]; exact hy)), if_neg (fun z => hj (by rw [← z]; exact hy))]
      · rw [if_neg hy, valD_cons, valD_cons, ih]
  unfold addT
  by_cases ha : (T.any fun e => decide (e.1 = k)) = true
  · rw [if_pos ha]
    by_cases h : j = k
    · subst h
      rw [if_pos rfl]
      induction T with
      | nil => cases ha
      | cons y T ih =>
        rw [List.map_cons]
        by_cases hy : y.1 = j
        · rw [if_pos hy, valD_cons, valD_cons, if_pos hy, if_pos hy]; rfl
        · rw [if_neg hy, valD_cons, valD_cons, if_neg hy, if_neg hy]
          refine ih ?_
          rw [List.any_cons, decide_eq_false hy] at ha
          exact ha
    · rw [if_neg h]
      exact hnot T j h
  · rw [if_neg ha]
    have hv : valD T k = none := by
      have := valD_any k T
      cases e : valD T k with
      | none => rfl
      | some x => rw [e] at this; exact absurd this ha
    rw [valD_app k [d] j T hv, hv]
    rfl
theorem addT_len {κ : Type} [DecidableEq κ] (T : List (κ × List D)) (k : κ) (d : D) : (addT T k d).length ≤ T.length + 1 := by
  unfold addT
  split
  · rw [List.length_map]; omega
  · rw [List.length_append]; exact Nat.le_refl _
theorem tabOf_len {κ : Type} (es : List (κ × Addr × List D)) : (tabOf es).length = es.length := List.length_map ..
def optI (l : List Int) : Option (List D) := if l = [] then none else some (l.map D.int)
theorem optI_snoc (l : List Int) (e : Int) : optI (l ++ [e]) = some ((optI l).getD [] ++ [.int e]) := by
  unfold optI
  rw [if_neg (by simp), List.map_append]
  by_cases h : l = []
  · rw [if_pos h, h]; rfl
  · rw [if_neg h]; rfl
theorem optI_get (l : List Int) : (optI l).getD [] = l.map D.int := by
  unfold optI
  by_cases h : l = []
  · rw [if_pos h, h]; rfl
  · rw [if_neg h]; rfl
/-! ### a dict of pairs -/
def kyP (p : Int × Int) : List L2.Key := [.inl p.1, .inl p.2]
theorem kyP_inj {p q : Int × Int} (h : kyP p = kyP q) : p = q := by
  obtain ⟨a, b⟩ := p
  obtain ⟨c, d⟩ := q
  unfold kyP at h
  injection h with h1 h2
  injection h2 with h2 _
  have e1 : a = c := Sum.inl.inj h1
  have e2 : b = d := Sum.inl.inj h2
  rw [e1, e2]
def prK (ps : List (Int × Int)) : List (List L2.Key × D) := ps.map fun p => (kyP p, .bl true)
def insP (ps : List (Int × Int)) (p : Int × Int) : List (Int × Int) := if p ∈ ps then ps else ps ++ [p]
theorem put_prK (ps : List (Int × Int)) (p : Int × Int) : putD (prK ps) (kyP p) (.bl true) = prK (insP ps p) := by
  have hany : ((prK ps).any fun kv => decide (kv.1 = kyP p)) = decide (p ∈ ps) := by
    rw [Bool.eq_iff_iff, List.any_eq_true, decide_eq_true_eq]
    constructor
    · rintro ⟨kv, hkv, h⟩
      obtain ⟨q, hq, rfl⟩ := List.mem_map.mp hkv
      rw [← kyP_inj (of_decide_eq_true h)]
      exact hq
    · intro h
      exact ⟨_, List.mem_map.mpr ⟨p, h, rfl⟩, decide_eq_true rfl⟩
  unfold putD insP
  rw [hany]
  by_cases h : p ∈ ps
  · rw [if_pos (decide_eq_true h), if_pos h]
    unfold prK
    rw [List.map_map]
    refine List.map_congr_left fun q _ => ?_
    show (if kyP q = kyP p then (kyP q, D.bl true) else (kyP q, D.bl true)) = _
    split <;> rfl
  · rw [if_neg (by rw [decide_eq_true_eq]; exact h), if_neg h]
    unfold prK
    rw [List.map_append]
    rfl
theorem insP_mem {ps : List (Int × Int)} {p q : Int × Int} : q ∈ insP ps p ↔ q ∈ ps ∨ q = p := by
  unfold insP
  by_cases h : p ∈ ps
  · rw [if_pos h]
    exact ⟨.inl, fun z => z.elim id fun e => e ▸ h⟩
  · rw [if_neg h, List.mem_append, List.mem_singleton]
theorem insP_nodup {ps : List (Int × Int)} {p : Int × Int} (h : ps.Nodup) : (insP ps p).Nodup := by
  unfold insP
  split
  · exact h
  · rename_i hn
    refine List.nodup_append.mpr ⟨h, by simp, fun a ha b hb e => ?_⟩
    rw [List.mem_singleton] at hb
    exact hn (hb ▸ e ▸ ha)
theorem insP_len (ps : List (Int × Int)) (p : Int × Int) : (insP ps p).length ≤ ps.length + 1 := by
  unfold insP
  split
  · omega
  · rw [List.length_append]; exact Nat.le_refl _
theorem keys_prK (ps : List (Int × Int)) : (prK ps).map (fun e => kTD e.1) = ps.map iiD := by
  unfold prK
  rw [List.map_map]
  rfl
/-! ### lists in order -/
def lxP (x y : Int × Int) : Prop := x.1 < y.1 ∨ (x.1 = y.1 ∧ x.2 < y.2)
theorem sort_uniq : ∀ {xs ys : List (Int × Int)}, xs.Pairwise lxP → ys.Pairwise lxP → (∀ p, p ∈ xs ↔ p ∈ ys) → xs = ys
  | [], [], _, _, _ => rfl
  | [], y :: ys, _, _, h => absurd ((h y).mpr (List.mem_cons_self ..)) (by simp)
  | x :: xs, [], _, _, h => absurd ((h x).mp (List.mem_cons_self ..)) (by simp)
  | x :: xs, y :: ys, h1, h2, h => by
    obtain ⟨a1, b1⟩ := List.pairwise_cons.mp h1
    obtain ⟨a2, b2⟩ := List.pairwise_cons.mp h2
    have irr : ∀ p : Int × Int, ¬ lxP p p := fun p z => by
      unfold lxP at z
      omega
    have asym : ∀ p q : Int × Int, lxP p q → ¬ lxP q p := fun p q z w => by
      unfold lxP at z w
      omega
    have e : x = y := by
      rcases List.mem_cons.mp ((h x).mp (List.mem_cons_self ..)) with e | m1
      · exact e
      · rcases List.mem_cons.mp ((h y).mpr (List.mem_cons_self ..)) with e | m2
        · exact e.symm
        · exact absurd (a1 y m2) (asym _ _ (a2 x m1))
    subst e
    rw [sort_uniq b1 b2 fun p => ?_]
    constructor
    · intro m
      rcases List.mem_cons.mp ((h p).mp (List.mem_cons_of_mem _ m)) with e | z
      · exact absurd (a1 p m) (by rw [e]; exact irr x)
      · exact z
    · intro m
      rcases List.mem_cons.mp ((h p).mpr (List.mem_cons_of_mem _ m)) with e | z
      · exact absurd (a2 p m) (by rw [e]; exact irr x)
      · exact z
theorem strict_of {qs : List (Int × Int)} (hn : qs.Nodup) (h : qs.Pairwise (fun x y => ¬ (y.1 < x.1 ∨ (y.1 = x.1 ∧ y.2 < x.2)))) : qs.Pairwise lxP := by
  refine (List.pairwise_and_iff.mpr ⟨h, hn⟩).imp fun {x y} ⟨z, w⟩ => ?_
  obtain ⟨a, b⟩ := x
  obtain ⟨c, d⟩ := y
  unfold lxP
  have : ¬ (a = c ∧ b = d) := fun ⟨e1, e2⟩ => w (by rw [e1, e2])
  simp only at z ⊢
  omega
/-! ### what meets -/
theorem docs_lt {ds : List Doc} (h : Docs ds) {i j : Nat} (hij : i < j) (hj : j < ds.length) : (docAt ds i).1 < (docAt ds j).1 := by
  have h2 := List.pairwise_iff_getElem.mp h.2.1 i j (by rw [List.length_map]; omega) (by rw [List.length_map]; omega) hij
  rw [List.getElem_map, List.getElem_map] at h2
  unfold docAt
  rw [List.getD_eq_getElem?_getD, List.getD_eq_getElem?_getD, List.getElem?_eq_getElem (by omega), List.getElem?_eq_getElem hj]
  exact h2
theorem docAt_mem {ds : List Doc} {i : Nat} (h : i < ds.length) : docAt ds i ∈ ds := by
  unfold docAt
  rw [List.getD_eq_getElem?_getD, List.getElem?_eq_getElem h]
  exact List.getElem_mem h
theorem docAt_get {ds : List Doc} {i : Nat} (h : i < ds.length) : ds[i]? = some (docAt ds i) := by
  unfold docAt
  rw [List.getD_eq_getElem?_getD, List.getElem?_eq_getElem h]
  rfl
theorem com_pos {n : Nat} {ps qs : List Ln} : 0 < com n ps qs ↔ ∃ L, L ∈ shs n ps ∧ L ∈ shs n qs := by
  unfold com
  rw [List.length_pos_iff_exists_mem]
  constructor
  · rintro ⟨L, hL⟩
    rw [List.mem_filter] at hL
    exact ⟨L, of_decide_eq_true hL.2, hL.1⟩
  · rintro ⟨L, h1, h2⟩
    exact ⟨L, List.mem_filter.mpr ⟨h2, decide_eq_true h1⟩⟩
theorem mem_numsP {n : Nat} {ds : List Doc} {i : Nat} {L : Ln} {a : Int} : a ∈ numsP n ds i L ↔ ∃ k, k < i ∧ L ∈ shs n (docAt ds k).2 ∧ a = (docAt ds k).1 := by
  unfold numsP
  rw [List.mem_map]
  constructor
  · rintro ⟨k, hk, rfl⟩
    rw [List.mem_filter, List.mem_range] at hk
    exact ⟨k, hk.1, of_decide_eq_true hk.2, rfl⟩
  · rintro ⟨k, h1, h2, rfl⟩
    exact ⟨k, List.mem_filter.mpr ⟨List.mem_range.mpr h1, decide_eq_true h2⟩, rfl⟩
theorem numsP_succ (n : Nat) (ds : List Doc) (i : Nat) (L : Ln) : numsP n ds (i + 1) L = numsP n ds i L ++ if L ∈ shs n (docAt ds i).2 then [(docAt ds i).1] else [] := by
  unfold numsP
  rw [List.range_succ, List.filter_append, List.map_append]
  congr 1
  by_cases h : L ∈ shs n (docAt ds i).2
  · simp [h]
  · simp [h]
theorem numsP_len (n : Nat) (ds : List Doc) (i : Nat) (L : Ln) : (numsP n ds i L).length ≤ i := by
  unfold numsP
  rw [List.length_map]
  exact Nat.le_trans (List.length_filter_le ..) (by rw [List.length_range]; exact Nat.le_refl _)
theorem mem_meetR {n : Nat} {ds : List Doc} {i m : Nat} {p : Int × Int} : p ∈ meetR n ds i m ↔ ∃ j, j < m ∧ i < j ∧ 0 < com n (docAt ds i).2 (docAt ds j).2 ∧ p = ((docAt ds i).1, (docAt ds j).1) := by
  unfold meetR
  rw [List.mem_map]
  constructor
  · rintro ⟨k, hk, rfl⟩
    rw [List.mem_filter, List.mem_range] at hk
    have := of_decide_eq_true hk.2
    exact ⟨k, hk.1, this.1, this.2, rfl⟩
  · rintro ⟨k, h1, h2, h3, rfl⟩
    exact ⟨k, List.mem_filter.mpr ⟨List.mem_range.mpr h1, decide_eq_true ⟨h2, h3⟩⟩, rfl⟩
theorem meetR_zero (n : Nat) (ds : List Doc) (i : Nat) : meetR n ds i (i + 1) = [] := by
  refine List.eq_nil_iff_forall_not_mem.mpr fun p hp => ?_
  obtain ⟨j, h1, h2, _⟩ := mem_meetR.mp hp
  omega
theorem meetR_succ {n : Nat} {ds : List Doc} {i m : Nat} (h : i < m) : meetR n ds i (m + 1) = meetR n ds i m ++ if 0 < com n (docAt ds i).2 (docAt ds m).2 then [((docAt ds i).1, (docAt ds m).1)] else [] := by
  unfold meetR
  rw [List.range_succ, List.filter_append, List.map_append]
  congr 1
  by_cases hc : 0 < com n (docAt ds i).2 (docAt ds m).2
  · simp [h, hc]
  · simp [hc]
theorem meetN_succ (n : Nat) (ds : List Doc) (i : Nat) : meetN n ds (i + 1) = meetN n ds i ++ meetR n ds i ds.length := by
  unfold meetN
  rw [List.range_succ, List.flatMap_append, List.flatMap_cons, List.flatMap_nil, List.append_nil]
theorem meetR_len (n : Nat) (ds : List Doc) (i m : Nat) : (meetR n ds i m).length ≤ m := by
  unfold meetR
  rw [List.length_map]
  exact Nat.le_trans (List.length_filter_le ..) (by rw [List.length_range]; exact Nat.le_refl _)
theorem meetN_len (n : Nat) (ds : List Doc) : ∀ i, (meetN n ds i).length ≤ i * ds.length
  | 0 => by simp [meetN]
  | i + 1 => by
    have := meetN_len n ds i
    have := meetR_len n ds i ds.length
    rw [meetN_succ, List.length_append, Nat.add_mul]
    omega
theorem meetP_sorted {ds : List Doc} (h : Docs ds) (n : Nat) : (meetP n ds).Pairwise lxP := by
  unfold meetP meetN
  rw [List.pairwise_flatMap]
  constructor
  · intro i hi
    unfold meetR
    rw [List.pairwise_map]
    refine ((List.pairwise_lt_range (n := ds.length)).filter _).imp_of_mem ?_
    intro a b ha hb hab
    rw [List.mem_filter, List.mem_range] at hb
    exact .inr ⟨rfl, docs_lt h hab hb.1⟩
  · refine (List.pairwise_lt_range (n := ds.length)).imp_of_mem ?_
    intro a b ha hb hab x hx y hy
    obtain ⟨j, _, _, _, rfl⟩ := mem_meetR.mp hx
    obtain ⟨k, _, _, _, rfl⟩ := mem_meetR.mp hy
    exact .inl (docs_lt h hab (List.mem_range.mp hb))
theorem mem_ev {n : Nat} {ds : List Doc} {i : Nat} {p : Int × Int} : p ∈ ev n ds i ↔ ∃ j, j < i ∧ ∃ k, k < j ∧ 0 < com n (docAt ds k).2 (docAt ds j).2 ∧ p = ((docAt ds k).1, (docAt ds j).1) := by
  unfold ev
  rw [List.mem_flatMap]
  constructor
  · rintro ⟨j, hj, hp⟩
    obtain ⟨L, hL, hp⟩ := List.mem_flatMap.mp hp
    obtain ⟨a, ha, rfl⟩ := List.mem_map.mp hp
    obtain ⟨k, h1, h2, rfl⟩ := mem_numsP.mp ha
    exact ⟨j, List.mem_range.mp hj, k, h1, com_pos.mpr ⟨L, h2, hL⟩, rfl⟩
  · rintro ⟨j, hj, k, hk, hc, rfl⟩
    obtain ⟨L, h1, h2⟩ := com_pos.mp hc
    exact ⟨j, List.mem_range.mpr hj, List.mem_flatMap.mpr ⟨L, h2, List.mem_map.mpr ⟨_, mem_numsP.mpr ⟨k, hk, h1, rfl⟩, rfl⟩⟩⟩
theorem ev_meet {n : Nat} {ds : List Doc} {p : Int × Int} : p ∈ ev n ds ds.length ↔ p ∈ meetP n ds := by
  rw [mem_ev]
  unfold meetP meetN
  rw [List.mem_flatMap]
  constructor
  · rintro ⟨j, hj, k, hk, hc, rfl⟩
    exact ⟨k, List.mem_range.mpr (by omega), mem_meetR.mpr ⟨j, hj, hk, hc, rfl⟩⟩
  · rintro ⟨k, hk, hp⟩
    obtain ⟨j, h1, h2, h3, rfl⟩ := mem_meetR.mp hp
    exact ⟨j, h1, k, h2, h3, rfl⟩
theorem ev_succ (n : Nat) (ds : List Doc) (i : Nat) : ev n ds (i + 1) = ev n ds i ++ (shs n (docAt ds i).2).flatMap fun L => (numsP n ds i L).map fun a => (a, (docAt ds i).1) := by
  unfold ev
  rw [List.range_succ, List.flatMap_append, List.flatMap_cons, List.flatMap_nil, List.append_nil]

theorem not_take {α : Type} {l : List α} {j : Nat} {x : α} (hn : l.Nodup) (h : l[j]? = some x) : x ∉ l.take j := by
  intro hm
  have e := List.take_append_drop j l
  rw [← e, List.nodup_append] at hn
  have hx : x ∈ l.drop j := by
    rw [List.mem_iff_getElem?]
    exact ⟨0, by rw [List.getElem?_drop]; exact h⟩
  exact hn.2.2 x hm x hx rfl
theorem pure_meeting_pairs : ∀ as Q Qe, sp_meeting_pairs as Q Qe → w_meeting_pairs (ends0 as Q) (initA 9 as) := by
  rintro as Q Qe ⟨ds, n, rfl, hds, hn, hn2, hq⟩
  have hd8 := hds.1
  conv => whnf
  intro root h0
  (try simp only [putBack, hold, resOf, initA, keepNo, wipeA, List.set_cons_zero, List.set_cons_succ, List.getElem?_cons_zero, List.getElem?_cons_succ, List.map_cons, List.map_nil, List.replicate_succ, List.replicate_zero, List.length_cons, List.length_nil, List.cons_append, List.nil_append, Nat.reduceSub, Nat.reduceAdd, Nat.zero_add, List.replicate])
  conv => whnf
  refine form_i (fun i g a => ∃ (es : List (List L2.Key × Addr × List D)) (ps : List (Int × Int)) (x4 x5 x6 x7 x8 : Option AV), a = [some ⟨.no, .lst (ds.map docD)⟩, some ⟨.no, .int n⟩, some ⟨.no, .adr root⟩, some ⟨.own, .dT (prK ps)⟩, x4, x5, x6, x7, x8] ∧ TabG D.dT g root es ∧ es.length ≤ i * 1010 ∧ (∀ L, valD (tabOf es) (ky L) = optI (numsP n ds i L)) ∧ ps.Nodup ∧ ps.length ≤ i * 10000 ∧ ∀ p, p ∈ ps ↔ p ∈ ev n ds i) ⟨[], [], none, none, none, none, none, rfl, tab_nil gAt_same, Nat.zero_le _, fun L => rfl, List.nodup_nil, Nat.zero_le _, fun p => Iff.rfl⟩ ?_ ?_
  · rintro i g a d hi ⟨es, ps, x4, x5, x6, x7, x8, rfl, htab, hlen, hval, hnd, hpl, hps⟩
    rw [List.getElem?_map, Option.map_eq_some_iff] at hi
    obtain ⟨dc, hdi, rfl⟩ := hi
    have hil := (List.getElem?_eq_some_iff.mp hdi).1
    have hdc : docAt ds i = dc := by
      have := docAt_get hil
      rw [hdi] at this
      exact (Option.some.inj this).symm
    have hP : Pieces dc.2 := (hds.2.2 dc (List.mem_of_getElem? hdi)).1
    have hSl := shs_len (n := n) hP
    have hSn := shs_nodup n dc.2
    conv => whnf
    refine ⟨rfl, ?_⟩
    (try simp only [putBack, hold, resOf, initA, keepNo, wipeA, List.set_cons_zero, List.set_cons_succ, List.getElem?_cons_zero, List.getElem?_cons_succ, List.map_cons, List.map_nil, List.replicate_succ, List.replicate_zero, List.length_cons, List.length_nil, List.cons_append, List.nil_append, Nat.reduceSub, Nat.reduceAdd, Nat.zero_add, List.replicate])
    conv => whnf
    refine callS_i ⟨_, _, rfl, hP, hn, hn2, ?_⟩
    (try simp only [putBack, hold, resOf, initA, keepNo, wipeA, List.set_cons_zero, List.set_cons_succ, List.getElem?_cons_zero, List.getElem?_cons_succ, List.map_cons, List.map_nil, List.replicate_succ, List.replicate_zero, List.length_cons, List.length_nil, List.cons_append, List.nil_append, Nat.reduceSub, Nat.reduceAdd, Nat.zero_add, List.replicate])
    conv => whnf
    refine form_i (fun j g a => ∃ (es : List (List L2.Key × Addr × List D)) (ps : List (Int × Int)) (x6 x7 x8 : Option AV), a = [some ⟨.no, .lst (ds.map docD)⟩, some ⟨.no, .int n⟩, some ⟨.no, .adr root⟩, some ⟨.own, .dT (prK ps)⟩, some ⟨.no, .int dc.1⟩, some ⟨.no, .lst (dc.2.map lnD)⟩, x6, x7, x8] ∧ TabG D.dT g root es ∧ es.length ≤ i * 1010 + j ∧ (∀ L, valD (tabOf es) (ky L) = optI (numsP n ds i L ++ if L ∈ (shs n dc.2).take j then [dc.1] else [])) ∧ ps.Nodup ∧ ps.length ≤ i * 10000 + j * 8 ∧ ∀ p, p ∈ ps ↔ p ∈ ev n ds i ∨ p ∈ ((shs n dc.2).take j).flatMap fun L => (numsP n ds i L).map fun a => (a, dc.1)) ⟨es, ps, x6, x7, x8, rfl, htab, hlen, fun L => by simp [hval L], hnd, by omega, fun p => by simp [hps p]⟩ ?_ ?_
    · clear hval hlen htab hnd hpl hps es ps
      rintro j g a d hj ⟨es, ps, x6, x7, x8, rfl, htab, hlen, hval, hnd, hpl, hps⟩
      rw [List.getElem?_map, Option.map_eq_some_iff] at hj
      obtain ⟨L, hL, rfl⟩ := hj
      have hjl := (List.getElem?_eq_some_iff.mp hL).1
      have hjl : j < 1010 := by
        have : j < (shs n dc.2).length := hjl
        omega
      have hnot : L ∉ (shs n dc.2).take j :=
         not_take hSn hL
      have hvL : valD (tabOf es) (ky L) = optI (numsP n ds i L) := by
        rw [hval L, if_neg hnot, List.append_nil]
      have hnl := numsP_len n ds i L
      conv => whnf
      refine onO_of htab.top ⟨trivial, ?_⟩
      conv => whnf
      refine onO_of (keys_line L) ⟨by rw [List.length_map]; exact smaller (by omega), tab_step htab fun q g2 xs hq2 hxs hstep => ?_⟩
      rw [hvL, optI_get] at hxs
      subst hxs
      (try simp only [putBack, hold, resOf, initA, keepNo, wipeA, List.set_cons_zero, List.set_cons_succ, List.getElem?_cons_zero, List.getElem?_cons_succ, List.map_cons, List.map_nil, List.replicate_succ, List.replicate_zero, List.length_cons, List.length_nil, List.cons_append, List.nil_append, Nat.reduceSub, Nat.reduceAdd, Nat.zero_add, List.replicate])
      conv => whnf
      refine onLs_of hq2 ?_
      conv => whnf
      refine fora_i (fun k g3 a => ∃ (ps : List (Int × Int)) (x8 : Option AV), g3 = g2 ∧ a = [some ⟨.no, .lst (ds.map docD)⟩, some ⟨.no, .int n⟩, some ⟨.no, .adr root⟩, some ⟨.own, .dT (prK ps)⟩, some ⟨.no, .int dc.1⟩, some ⟨.no, .lst (dc.2.map lnD)⟩, some ⟨.no, tupL L⟩, some ⟨.no, .adr q⟩, x8] ∧ ps.Nodup ∧ ps.length ≤ i * 10000 + j * 8 + k ∧ ∀ p, p ∈ ps ↔ (p ∈ ev n ds i ∨ p ∈ ((shs n dc.2).take j).flatMap fun L => (numsP n ds i L).map fun a => (a, dc.1)) ∨ p ∈ ((numsP n ds i L).take k).map fun a => (a, dc.1)) ⟨ps, x8, rfl, rfl, hnd, by omega, fun p => by simp [hps p]⟩ (by rintro k g3 a ⟨ps, x8, rfl, _⟩; exact hq2) ?_ ?_
      · clear hnd hpl hps ps
        rintro k g3 a d hk ⟨ps, x8, rfl, rfl, hnd, hpl, hps⟩
        rw [List.getElem?_map, Option.map_eq_some_iff] at hk
        obtain ⟨b, hb, rfl⟩ := hk
        have hkl := (List.getElem?_eq_some_iff.mp hb).1
        conv => whnf
        refine ⟨(by first | omega | exact ⟨by omega, by omega⟩ | exact small (by simp only [List.length_cons, List.length_nil, List.length_append, List.length_map, ds_len, DS.rangeD_len]; try omega) | exact smaller (by simp only [List.length_cons, List.length_nil, List.length_append, List.length_map, ds_len, DS.rangeD_len]; omega) | exact cmul_r (by decide) (by decide) | exact cmul_l (by decide) (by decide) | exact ⟨by decide, by decide⟩ | exact cmul_l (by omega) (by omega) | exact cmul_r (by omega) (by omega) | (simp only [List.length_cons, List.length_nil, List.length_append, List.length_map, ds_len]; omega)), ?_⟩
        conv => whnf
        refine ⟨smaller (by unfold prK; rw [List.length_map]; omega), ?_⟩
        conv => whnf
        refine ⟨insP ps (b, dc.1), some ⟨.no, .int b⟩, rfl, ?_, insP_nodup hnd, by have := insP_len ps (b, dc.1); omega, fun p => ?_⟩
        · rw [← put_prK]
          rfl
        · rw [insP_mem, hps p, List.take_add_one, hb, Option.toList_some, List.map_append, List.mem_append, or_assoc]
          simp
      · rintro g3 a ⟨ps, x8, rfl, rfl, hnd, hpl, hps⟩
        rw [List.length_map] at hpl hps
        (try simp only [putBack, hold, resOf, initA, keepNo, wipeA, List.set_cons_zero, List.set_cons_succ, List.getElem?_cons_zero, List.getElem?_cons_succ, List.map_cons, List.map_nil, List.replicate_succ, List.replicate_zero, List.length_cons, List.length_nil, List.cons_append, List.nil_append, Nat.reduceSub, Nat.reduceAdd, Nat.zero_add, List.replicate])
        conv => whnf
        refine onLs_of hq2 ?_
        conv => whnf
        refine onLs_of hq2 ⟨smaller (by rw [List.length_map]; omega), ?_⟩
        obtain ⟨es', h1, h2⟩ := hstep (.int dc.1)
        have hl2 : es'.length ≤ i * 1010 + (j + 1) := by
          have := addT_len (tabOf es) (ky L) (.int dc.1)
          rw [← h2, tabOf_len, tabOf_len] at this
          omega
        refine ⟨es', ps, _, _, _, rfl, h1, hl2, fun M => ?_, hnd, by omega, fun p => ?_⟩
        · rw [h2, valD_addT, List.take_add_one, hL, Option.toList_some]
          by_cases z : M = L
          · subst z
            rw [if_pos rfl, if_pos (by simp), optI_snoc, hvL]
          · rw [if_neg (fun y => z (ky_inj y)), hval M]
            simp [z]
        · rw [hps p, List.take_length, List.take_add_one, hL, Option.toList_some, List.flatMap_append, List.mem_append, List.flatMap_cons, List.flatMap_nil, List.append_nil, or_assoc]
    · rintro g a ⟨es, ps, x6, x7, x8, rfl, htab, hlen, hval, hnd, hpl, hps⟩
      rw [List.length_map] at hlen hval hpl hps
      rw [List.take_length] at hval hps
      have hSl2 : (shs n dc.2).length ≤ 1010 := hSl
      (try simp only [putBack, hold, resOf, initA, keepNo, wipeA, List.set_cons_zero, List.set_cons_succ, List.getElem?_cons_zero, List.getElem?_cons_succ, List.map_cons, List.map_nil, List.replicate_succ, List.replicate_zero, List.length_cons, List.length_nil, List.cons_append, List.nil_append, Nat.reduceSub, Nat.reduceAdd, Nat.zero_add, List.replicate])
      refine ⟨es, ps, _, _, _, _, _, rfl, htab, by simp only [shs] at *; omega, fun L => ?_, hnd, by simp only [shs] at *; omega, fun p => ?_⟩
      · rw [hval L, numsP_succ, hdc]
      · rw [hps p, ev_succ, List.mem_append, hdc]
  · rintro g a ⟨es, ps, x4, x5, x6, x7, x8, rfl, htab, hlen, hval, hnd, hpl, hps⟩
    rw [List.length_map] at hps
    conv => whnf
    skip
    rw [keys_prK]
    conv => whnf
    refine onO_of (prsOf_map ps) fun qs hperm hsort => ?_
    have e : qs = meetP n ds := sort_uniq (strict_of (hperm.nodup_iff.mpr hnd) hsort) (meetP_sorted hds n) fun p => by rw [hperm.mem_iff, hps p, ev_meet]
    rw [e]
    conv => whnf
    exact hq

theorem at_doc {ds : List Doc} {r : Int} {f : D → Prop} (h0 : 0 ≤ r) (h1 : r < ds.length) (hf : ∀ d, d ∈ ds → docAt ds r.toNat = d → f (docD d)) : onO (atI (ds.map docD) r) f := by
  have hl : r.toNat < ds.length := by omega
  exact onO_of (atI_of (v := docD (docAt ds r.toNat)) h0 (by rw [List.getElem?_map, docAt_get hl]; rfl)) (hf _ (docAt_mem hl) rfl)
theorem pure_Lpieces : ∀ as Q Qe, sp_Lpieces as Q Qe → w_Lpieces (ends0 as Q) (initA 3 as) := by
  rintro as Q Qe ⟨c, st, rfl, hb, hst, hq⟩
  conv => whnf
  refine callS_i ⟨_, _, rfl, hb, by omega, fun m bx m_0 m_1 hb => ?_⟩
  (try simp only [putBack, hold, resOf, initA, keepNo, wipeA, List.set_cons_zero, List.set_cons_succ, List.getElem?_cons_zero, List.getElem?_cons_succ, List.map_cons, List.map_nil, List.replicate_succ, List.replicate_zero, List.length_cons, List.length_nil, List.cons_append, List.nil_append, Nat.reduceSub, Nat.reduceAdd, Nat.zero_add, List.replicate])
  conv => whnf
  refine ⟨(by first | omega | exact ⟨by omega, by omega⟩ | exact small (by simp only [List.length_cons, List.length_nil, List.length_append, List.length_map, ds_len, DS.rangeD_len]; try omega) | exact smaller (by simp only [List.length_cons, List.length_nil, List.length_append, List.length_map, ds_len, DS.rangeD_len]; omega) | exact cmul_r (by decide) (by decide) | exact cmul_l (by decide) (by decide) | exact ⟨by decide, by decide⟩ | exact cmul_l (by omega) (by omega) | exact cmul_r (by omega) (by omega) | (simp only [List.length_cons, List.length_nil, List.length_append, List.length_map, ds_len]; omega)), ?_⟩
  conv => whnf
  refine lc_i (fun j acc a => ∃ (c : D) (ps : List Ln) (x : Option AV), a = [some ⟨.lent, c⟩, some ⟨.lent, .lst (st.map wD)⟩, x] ∧ isBox c ∧ acc = ps.map lnD ∧ ps.length = j ∧ ∀ p ∈ ps, p.length ≤ 50 ∧ ∀ w ∈ p, okW w) ⟨bx, [], none, rfl, hb, rfl, rfl, by simp⟩ ?_ ?_
  · rintro j acc a d hj ⟨c, ps, x, rfl, hb, rfl, hl, hp⟩
    obtain ⟨hj, rfl⟩ := rangeD_get.mp hj
    conv => whnf
    refine callS_i ⟨_, _, _, rfl, rfl, hb, hst, fun p c hp1 hp2 hb => ?_⟩
    (try simp only [putBack, hold, resOf, initA, keepNo, wipeA, List.set_cons_zero, List.set_cons_succ, List.getElem?_cons_zero, List.getElem?_cons_succ, List.map_cons, List.map_nil, List.replicate_succ, List.replicate_zero, List.length_cons, List.length_nil, List.cons_append, List.nil_append, Nat.reduceSub, Nat.reduceAdd, Nat.zero_add, List.replicate])
    conv => whnf
    refine ⟨smaller (by rw [List.length_map]; omega), c, ps ++ [p], _, rfl, hb, by rw [List.map_append]; rfl, by rw [List.length_append, hl]; rfl, ?_⟩
    intro q hq
    rcases List.mem_append.mp hq with h | h
    · exact hp q h
    · rw [List.mem_singleton.mp h]; exact ⟨hp1, hp2⟩
  · rintro acc a ⟨c, ps, x, rfl, hb, rfl, hl, hp⟩
    rw [rangeD_len] at hl
    conv => whnf
    exact hq ps c (by omega) (by intro e; rw [e] at hl; simp at hl; omega) hp hb
theorem pure_Ldocuments : ∀ as Q Qe, sp_Ldocuments as Q Qe → w_Ldocuments (ends0 as Q) (initA 7 as) := by
  rintro as Q Qe ⟨c, st, rfl, hb, hst, hq⟩
  conv => whnf
  refine ⟨(by first | omega | exact ⟨by omega, by omega⟩ | exact small (by simp only [List.length_cons, List.length_nil, List.length_append, List.length_map, ds_len, DS.rangeD_len]; try omega) | exact smaller (by simp only [List.length_cons, List.length_nil, List.length_append, List.length_map, ds_len, DS.rangeD_len]; omega) | exact cmul_r (by decide) (by decide) | exact cmul_l (by decide) (by decide) | exact ⟨by decide, by decide⟩ | exact cmul_l (by omega) (by omega) | exact cmul_r (by omega) (by omega) | (simp only [List.length_cons, List.length_nil, List.length_append, List.length_map, ds_len]; omega)), ?_⟩
  conv => whnf
  refine callS_i ⟨_, _, rfl, hb, by omega, fun m bx m_0 m_1 hb => ?_⟩
  (try simp only [putBack, hold, resOf, initA, keepNo, wipeA, List.set_cons_zero, List.set_cons_succ, List.getElem?_cons_zero, List.getElem?_cons_succ, List.map_cons, List.map_nil, List.replicate_succ, List.replicate_zero, List.length_cons, List.length_nil, List.cons_append, List.nil_append, Nat.reduceSub, Nat.reduceAdd, Nat.zero_add, List.replicate])
  conv => whnf
  refine ⟨(by first | omega | exact ⟨by omega, by omega⟩ | exact small (by simp only [List.length_cons, List.length_nil, List.length_append, List.length_map, ds_len, DS.rangeD_len]; try omega) | exact smaller (by simp only [List.length_cons, List.length_nil, List.length_append, List.length_map, ds_len, DS.rangeD_len]; omega) | exact cmul_r (by decide) (by decide) | exact cmul_l (by decide) (by decide) | exact ⟨by decide, by decide⟩ | exact cmul_l (by omega) (by omega) | exact cmul_r (by omega) (by omega) | (simp only [List.length_cons, List.length_nil, List.length_append, List.length_map, ds_len]; omega)), ?_⟩
  conv => whnf
  refine for_r (fun k a => ∃ (c : D) (ds : List Doc) (num : Int) (x4 x5 : Option AV), a = [some ⟨.lent, c⟩, some ⟨.lent, .lst (st.map wD)⟩, some ⟨.own, .lst (ds.map docD)⟩, some ⟨.no, .int num⟩, x4, x5, none] ∧ isBox c ∧ ds.length = k ∧ (ds.map (·.1)).Pairwise (· < ·) ∧ (∀ d ∈ ds, d.1 ≤ num) ∧ ∀ d ∈ ds, d.2.length ≤ 3 ∧ d.2 ≠ [] ∧ ∀ p ∈ d.2, p.length ≤ 50 + k ∧ ∀ w ∈ p, okW w) ⟨bx, [], -1, none, none, rfl, hb, rfl, List.Pairwise.nil, by simp, by simp⟩ ?_ ?_
  · rintro k a hk ⟨c, ds, num, x4, x5, rfl, hb, hlen, hpw, hnum, hds⟩
    have hk : k < m.toNat := by simpa using hk
    conv => whnf
    refine callS_i ⟨_, _, rfl, hb, by omega, fun r1 bx r1_0 r1_1 hb => ?_⟩
    (try simp only [putBack, hold, resOf, initA, keepNo, wipeA, List.set_cons_zero, List.set_cons_succ, List.getElem?_cons_zero, List.getElem?_cons_succ, List.map_cons, List.map_nil, List.replicate_succ, List.replicate_zero, List.length_cons, List.length_nil, List.cons_append, List.nil_append, Nat.reduceSub, Nat.reduceAdd, Nat.zero_add, List.replicate])
    conv => whnf
    refine callS_i ⟨_, _, rfl, hb, by omega, fun r2 bx r2_0 r2_1 hb => ?_⟩
    (try simp only [putBack, hold, resOf, initA, keepNo, wipeA, List.set_cons_zero, List.set_cons_succ, List.getElem?_cons_zero, List.getElem?_cons_succ, List.map_cons, List.map_nil, List.replicate_succ, List.replicate_zero, List.length_cons, List.length_nil, List.cons_append, List.nil_append, Nat.reduceSub, Nat.reduceAdd, Nat.zero_add, List.replicate])
    have hmul : 0 ≤ r1 * r2 := Int.mul_nonneg r1_0 r2_0
    conv => whnf
    refine ⟨cmul_l (by omega) (by omega), ?_⟩
    obtain ⟨Nx, hNx⟩ : ∃ Nx : PSt → Prop, Nx = fun a => ∃ (c : D) (ds : List Doc) (num : Int) (x4 x5 : Option AV), a = [some ⟨.lent, c⟩, some ⟨.lent, .lst (st.map wD)⟩, some ⟨.own, .lst (ds.map docD)⟩, some ⟨.no, .int num⟩, x4, x5, none] ∧ isBox c ∧ ds.length = k + 1 ∧ (ds.map (·.1)).Pairwise (· < ·) ∧ (∀ d ∈ ds, d.1 ≤ num) ∧ ∀ d ∈ ds, d.2.length ≤ 3 ∧ d.2 ≠ [] ∧ ∀ p ∈ d.2, p.length ≤ 50 + (k + 1) ∧ ∀ w ∈ p, okW w := ⟨_, rfl⟩
    have rest : ∀ (E : EndsA) (c : D) (ps : List Ln) (o : Ow), E.nx = Nx → o = .own → isBox c → ps.length ≤ 3 → ps ≠ [] → (∀ p ∈ ps, p.length ≤ 50 + (k + 1) ∧ ∀ w ∈ p, okW w) →
        w_Ldocuments_l1_2 E [some ⟨.lent, c⟩, some ⟨.lent, .lst (st.map wD)⟩, some ⟨.own, .lst (ds.map docD)⟩, some ⟨.no, .int (num + 1 + r1 * r2)⟩, some ⟨.no, .int (0 + (k : Int))⟩, some ⟨o, .lst (ps.map lnD)⟩, none] := by
      intro E c ps o hE ho hb h1 h2 h3
      subst ho
      conv => whnf
      refine ⟨(by first | omega | exact ⟨by omega, by omega⟩ | exact small (by simp only [List.length_cons, List.length_nil, List.length_append, List.length_map, ds_len, DS.rangeD_len]; try omega) | exact smaller (by simp only [List.length_cons, List.length_nil, List.length_append, List.length_map, ds_len, DS.rangeD_len]; omega) | exact cmul_r (by decide) (by decide) | exact cmul_l (by decide) (by decide) | exact ⟨by decide, by decide⟩ | exact cmul_l (by omega) (by omega) | exact cmul_r (by omega) (by omega) | (simp only [List.length_cons, List.length_nil, List.length_append, List.length_map, ds_len]; omega)), ?_⟩
      (try simp only [putBack, hold, resOf, initA, keepNo, wipeA, List.set_cons_zero, List.set_cons_succ, List.getElem?_cons_zero, List.getElem?_cons_succ, List.map_cons, List.map_nil, List.replicate_succ, List.replicate_zero, List.length_cons, List.length_nil, List.cons_append, List.nil_append, Nat.reduceSub, Nat.reduceAdd, Nat.zero_add, List.replicate])
      conv => whnf
      refine ⟨smaller (by rw [List.length_map]; omega), ?_⟩
      rw [hE, hNx]
      refine ⟨c, ds ++ [(num + 1 + r1 * r2, ps)], num + 1 + r1 * r2, _, _, by rw [List.map_append]; rfl, hb, by rw [List.length_append, hlen]; rfl, ?_, ?_, ?_⟩
      · rw [List.map_append, List.pairwise_append]
        refine ⟨hpw, by simp, ?_⟩
        intro x hx y hy
        obtain ⟨d, hd, rfl⟩ := List.mem_map.mp hx
        have := hnum d hd
        have hy : y = num + 1 + r1 * r2 := by simpa using hy
        omega
      · intro d hd
        rcases List.mem_append.mp hd with z | z
        · have := hnum d z
          omega
        · rw [List.mem_singleton.mp z]
          exact Int.le_refl _
      · intro d hd
        rcases List.mem_append.mp hd with z | z
        · obtain ⟨y1, y2, y3⟩ := hds d z
          exact ⟨y1, y2, fun p hp => ⟨by have := (y3 p hp).1; omega, (y3 p hp).2⟩⟩
        · rw [List.mem_singleton.mp z]
          exact ⟨h1, h2, h3⟩
    (try simp only [putBack, hold, resOf, initA, keepNo, wipeA, List.set_cons_zero, List.set_cons_succ, List.getElem?_cons_zero, List.getElem?_cons_succ, List.map_cons, List.map_nil, List.replicate_succ, List.replicate_zero, List.length_cons, List.length_nil, List.cons_append, List.nil_append, Nat.reduceSub, Nat.reduceAdd, Nat.zero_add, List.replicate])
    conv => whnf
    refine br_i (fun h => ?_) (fun h => ?_)
    · conv => whnf
      refine callS_i ⟨_, _, rfl, hb, by omega, fun r bx r_0 r_1 hb => ?_⟩
      (try simp only [putBack, hold, resOf, initA, keepNo, wipeA, List.set_cons_zero, List.set_cons_succ, List.getElem?_cons_zero, List.getElem?_cons_succ, List.map_cons, List.map_nil, List.replicate_succ, List.replicate_zero, List.length_cons, List.length_nil, List.cons_append, List.nil_append, Nat.reduceSub, Nat.reduceAdd, Nat.zero_add, List.replicate])
      conv => whnf
      refine br_i (fun h2 => ?_) (fun h2 => ?_)
      · (try simp only [putBack, hold, resOf, initA, keepNo, wipeA, List.set_cons_zero, List.set_cons_succ, List.getElem?_cons_zero, List.getElem?_cons_succ, List.map_cons, List.map_nil, List.replicate_succ, List.replicate_zero, List.length_cons, List.length_nil, List.cons_append, List.nil_append, Nat.reduceSub, Nat.reduceAdd, Nat.zero_add, List.replicate])
        conv => whnf
        refine callS_i ⟨_, _, rfl, hb, by omega, fun r bx r_0 r_1 hb => ?_⟩
        (try simp only [putBack, hold, resOf, initA, keepNo, wipeA, List.set_cons_zero, List.set_cons_succ, List.getElem?_cons_zero, List.getElem?_cons_succ, List.map_cons, List.map_nil, List.replicate_succ, List.replicate_zero, List.length_cons, List.length_nil, List.cons_append, List.nil_append, Nat.reduceSub, Nat.reduceAdd, Nat.zero_add, List.replicate])
        conv => whnf
        refine at_doc r_0 (by omega) fun d hd _ => ?_
        obtain ⟨y1, y2, y3⟩ := hds d hd
        conv => whnf
        refine lc_i (fun j acc a => ∃ (x : Option AV), a = [some ⟨.lent, bx⟩, some ⟨.lent, .lst (st.map wD)⟩, some ⟨.own, .lst (ds.map docD)⟩, some ⟨.no, .int (num + 1 + r1 * r2)⟩, some ⟨.no, .int (0 + (k : Int))⟩, x5, x] ∧ acc = (d.2.map lnD).take j) ⟨none, rfl, rfl⟩ ?_ ?_
        · rintro j acc a e hj ⟨x, rfl, rfl⟩
          obtain ⟨z, hz, rfl⟩ := List.mem_map.mp (List.mem_of_getElem? hj)
          conv => whnf
          refine ⟨smaller (by rw [List.length_take, List.length_map]; omega), _, rfl, by rw [List.take_add_one, hj]; rfl⟩
        · rintro acc a ⟨x, rfl, rfl⟩
          rw [List.take_length]
          obtain ⟨p, pr, hp⟩ : ∃ p pr, d.2 = p :: pr := by
            cases hd2 : d.2 with
            | nil => exact absurd hd2 y2
            | cons p pr => exact ⟨p, pr, rfl⟩
          rw [hp] at y1 y3 ⊢
          (try simp only [putBack, hold, resOf, initA, keepNo, wipeA, List.set_cons_zero, List.set_cons_succ, List.getElem?_cons_zero, List.getElem?_cons_succ, List.map_cons, List.map_nil, List.replicate_succ, List.replicate_zero, List.length_cons, List.length_nil, List.cons_append, List.nil_append, Nat.reduceSub, Nat.reduceAdd, Nat.zero_add, List.replicate])
          conv => whnf
          refine onO_of (atI_of (v := lnD p) (by omega) rfl) ?_
          conv => whnf
          refine callS_i ⟨_, _, rfl, hb, by rw [List.length_map]; exact Int.ofNat_lt.mpr hst.1, fun r bx r_0 r_1 hb => ?_⟩
          (try simp only [putBack, hold, resOf, initA, keepNo, wipeA, List.set_cons_zero, List.set_cons_succ, List.getElem?_cons_zero, List.getElem?_cons_succ, List.map_cons, List.map_nil, List.replicate_succ, List.replicate_zero, List.length_cons, List.length_nil, List.cons_append, List.nil_append, Nat.reduceSub, Nat.reduceAdd, Nat.zero_add, List.replicate])
          rw [List.length_map] at r_1
          have hpl := (y3 p (List.mem_cons_self ..)).1
          conv => whnf
          refine at_st r_0 r_1 fun w hw => ?_
          conv => whnf
          refine ⟨(by first | omega | exact ⟨by omega, by omega⟩ | exact small (by simp only [List.length_cons, List.length_nil, List.length_append, List.length_map, ds_len, DS.rangeD_len]; try omega) | exact smaller (by simp only [List.length_cons, List.length_nil, List.length_append, List.length_map, ds_len, DS.rangeD_len]; omega) | exact cmul_r (by decide) (by decide) | exact cmul_l (by decide) (by decide) | exact ⟨by decide, by decide⟩ | exact cmul_l (by omega) (by omega) | exact cmul_r (by omega) (by omega) | (simp only [List.length_cons, List.length_nil, List.length_append, List.length_map, ds_len]; omega)), ?_⟩
          conv => whnf
          refine ⟨smaller (by rw [List.length_map]; omega), ?_⟩
          have e : p.map wD ++ [wD w] = (p ++ [w]).map wD := by rw [List.map_append]; rfl
          rw [e]
          conv => whnf
          refine onO_of (ixN_of (n := (lnD p :: pr.map lnD).length) (i := 0) (by omega) (by simp)) ?_
          refine rest _ _ ((p ++ [w]) :: pr) .own hNx.symm rfl hb y1 (by simp) fun q hq => ?_
          rcases List.mem_cons.mp hq with z | z
          · subst z
            refine ⟨by rw [List.length_append, List.length_singleton]; omega, fun v hv => ?_⟩
            rcases List.mem_append.mp hv with y | y
            · exact (y3 p (List.mem_cons_self ..)).2 v y
            · rw [List.mem_singleton.mp y]
              exact hst.2.2 w hw
          · exact ⟨by have := (y3 q (List.mem_cons_of_mem _ z)).1; omega, (y3 q (List.mem_cons_of_mem _ z)).2⟩
      · (try simp only [putBack, hold, resOf, initA, keepNo, wipeA, List.set_cons_zero, List.set_cons_succ, List.getElem?_cons_zero, List.getElem?_cons_succ, List.map_cons, List.map_nil, List.replicate_succ, List.replicate_zero, List.length_cons, List.length_nil, List.cons_append, List.nil_append, Nat.reduceSub, Nat.reduceAdd, Nat.zero_add, List.replicate])
        conv => whnf
        refine callS_i ⟨_, _, rfl, hb, hst, fun ps c h3 h4 h5 hb => ?_⟩
        (try simp only [putBack, hold, resOf, initA, keepNo, wipeA, List.set_cons_zero, List.set_cons_succ, List.getElem?_cons_zero, List.getElem?_cons_succ, List.map_cons, List.map_nil, List.replicate_succ, List.replicate_zero, List.length_cons, List.length_nil, List.cons_append, List.nil_append, Nat.reduceSub, Nat.reduceAdd, Nat.zero_add, List.replicate])
        exact rest _ c ps .own hNx.symm rfl hb h3 h4 fun p hp => ⟨by have := (h5 p hp).1; omega, (h5 p hp).2⟩
    · (try simp only [putBack, hold, resOf, initA, keepNo, wipeA, List.set_cons_zero, List.set_cons_succ, List.getElem?_cons_zero, List.getElem?_cons_succ, List.map_cons, List.map_nil, List.replicate_succ, List.replicate_zero, List.length_cons, List.length_nil, List.cons_append, List.nil_append, Nat.reduceSub, Nat.reduceAdd, Nat.zero_add, List.replicate])
      conv => whnf
      refine callS_i ⟨_, _, rfl, hb, hst, fun ps c h3 h4 h5 hb => ?_⟩
      (try simp only [putBack, hold, resOf, initA, keepNo, wipeA, List.set_cons_zero, List.set_cons_succ, List.getElem?_cons_zero, List.getElem?_cons_succ, List.map_cons, List.map_nil, List.replicate_succ, List.replicate_zero, List.length_cons, List.length_nil, List.cons_append, List.nil_append, Nat.reduceSub, Nat.reduceAdd, Nat.zero_add, List.replicate])
      exact rest _ c ps .own hNx.symm rfl hb h3 h4 fun p hp => ⟨by have := (h5 p hp).1; omega, (h5 p hp).2⟩
  · rintro a ⟨c, ds, num, x4, x5, rfl, hb, hlen, hpw, hnum, hds⟩
    have hlen : ds.length = m.toNat := by simpa using hlen
    conv => whnf
    exact hq ds c ⟨by omega, hpw, fun d hd => ⟨⟨by have := (hds d hd).1; omega, fun p hp => ⟨by have := ((hds d hd).2.2 p hp).1; omega, ((hds d hd).2.2 p hp).2⟩⟩, (hds d hd).2.1⟩⟩ (by omega) hb
theorem pure_Lcopied : ∀ as Q Qe, sp_Lcopied as Q Qe → w_Lcopied (ends0 as Q) (initA 5 as) := by
  rintro as Q Qe ⟨ds, rfl, hds, hq⟩
  have hd8 := hds.1
  conv => whnf
  refine ⟨(by first | omega | exact ⟨by omega, by omega⟩ | exact small (by simp only [List.length_cons, List.length_nil, List.length_append, List.length_map, ds_len, DS.rangeD_len]; try omega) | exact smaller (by simp only [List.length_cons, List.length_nil, List.length_append, List.length_map, ds_len, DS.rangeD_len]; omega) | exact cmul_r (by decide) (by decide) | exact cmul_l (by decide) (by decide) | exact ⟨by decide, by decide⟩ | exact cmul_l (by omega) (by omega) | exact cmul_r (by omega) (by omega) | (simp only [List.length_cons, List.length_nil, List.length_append, List.length_map, ds_len]; omega)), ?_⟩
  conv => whnf
  refine for_i (fun i a => ∃ (x2 x3 : Option AV), a = [some ⟨.no, .lst (ds.map docD)⟩, some ⟨.own, .lst ((ds.take i).map docD)⟩, x2, x3, none]) ⟨none, none, rfl⟩ ?_ ?_
  · rintro i a d hi ⟨x2, x3, rfl⟩
    rw [List.getElem?_map, Option.map_eq_some_iff] at hi
    obtain ⟨dc, hdi, rfl⟩ := hi
    have hP : Pieces dc.2 := (hds.2.2 dc (List.mem_of_getElem? hdi)).1
    have := hP.1
    conv => whnf
    refine ⟨rfl, ?_⟩
    (try simp only [putBack, hold, resOf, initA, keepNo, wipeA, List.set_cons_zero, List.set_cons_succ, List.getElem?_cons_zero, List.getElem?_cons_succ, List.map_cons, List.map_nil, List.replicate_succ, List.replicate_zero, List.length_cons, List.length_nil, List.cons_append, List.nil_append, Nat.reduceSub, Nat.reduceAdd, Nat.zero_add, List.replicate])
    conv => whnf
    refine lc_i (fun j acc a => ∃ (x : Option AV), a = [some ⟨.no, .lst (ds.map docD)⟩, some ⟨.own, .lst ((ds.take i).map docD)⟩, some ⟨.no, .int dc.1⟩, some ⟨.no, .lst (dc.2.map lnD)⟩, x] ∧ acc = (dc.2.map lnD).take j) ⟨none, rfl, rfl⟩ ?_ ?_
    · rintro j acc a e hj ⟨x, rfl, rfl⟩
      obtain ⟨z, hz, rfl⟩ := List.mem_map.mp (List.mem_of_getElem? hj)
      conv => whnf
      refine ⟨smaller (by rw [List.length_take, List.length_map]; omega), _, rfl, by rw [List.take_add_one, hj]; rfl⟩
    · rintro acc a ⟨x, rfl, rfl⟩
      rw [List.take_length]
      (try simp only [putBack, hold, resOf, initA, keepNo, wipeA, List.set_cons_zero, List.set_cons_succ, List.getElem?_cons_zero, List.getElem?_cons_succ, List.map_cons, List.map_nil, List.replicate_succ, List.replicate_zero, List.length_cons, List.length_nil, List.cons_append, List.nil_append, Nat.reduceSub, Nat.reduceAdd, Nat.zero_add, List.replicate])
      conv => whnf
      refine ⟨(by first | omega | exact ⟨by omega, by omega⟩ | exact small (by simp only [List.length_cons, List.length_nil, List.length_append, List.length_map, ds_len, DS.rangeD_len]; try omega) | exact smaller (by simp only [List.length_cons, List.length_nil, List.length_append, List.length_map, ds_len, DS.rangeD_len]; omega) | exact cmul_r (by decide) (by decide) | exact cmul_l (by decide) (by decide) | exact ⟨by decide, by decide⟩ | exact cmul_l (by omega) (by omega) | exact cmul_r (by omega) (by omega) | (simp only [List.length_cons, List.length_nil, List.length_append, List.length_map, ds_len]; omega)), ?_⟩
      conv => whnf
      refine ⟨smaller (by rw [List.length_map, List.length_take]; omega), ?_⟩
      refine ⟨some ⟨.no, .int dc.1⟩, some ⟨.no, .lst (dc.2.map lnD)⟩, ?_⟩
      rw [List.take_add_one, hdi, Option.toList_some, List.map_append]
      rfl
  · rintro a ⟨x2, x3, rfl⟩
    rw [List.length_map, List.take_length]
    conv => whnf
    exact hq

theorem shs_pos {n : Nat} {ps : List Ln} (h : ps ≠ []) : 0 < (shs n ps).length := by
  cases ps with
  | nil => exact absurd rfl h
  | cons p r =>
    have h1 : 0 < shN p n := by
      unfold shN
      split <;> omega
    have h2 : (p.drop 0).take n ∈ shs n (p :: r) := by
      rw [mem_dd]
      refine .inr (List.mem_flatten.mpr ⟨shP n p, List.mem_map.mpr ⟨p, List.mem_cons_self .., rfl⟩, ?_⟩)
      exact List.mem_map.mpr ⟨0, List.mem_range.mpr h1, rfl⟩
    exact List.length_pos_of_mem h2
theorem pl_ii (n : Nat) {ps : List (Int × Int)} (h : ps.length ≤ 10000000) : Pl (n + 2) (.lst (ps.map iiD)) := by
  refine ⟨by rw [List.length_map]; exact h, fun x hx => ?_⟩
  obtain ⟨p, hp, rfl⟩ := List.mem_map.mp hx
  refine ⟨by simp, fun y hy => ?_⟩
  rcases List.mem_cons.mp hy with rfl | hy
  · exact pl_int _ _
  · rw [List.mem_singleton.mp hy]
    exact pl_int _ _
theorem pl_docs (n : Nat) {ds : List Doc} (h : Docs ds) : Pl (n + 4) (.lst (ds.map docD)) := by
  have := h.1
  refine ⟨by rw [List.length_map]; omega, fun x hx => ?_⟩
  obtain ⟨d, hd, rfl⟩ := List.mem_map.mp hx
  refine ⟨by simp, fun y hy => ?_⟩
  rcases List.mem_cons.mp hy with rfl | hy
  · exact pl_int _ _
  · rw [List.mem_singleton.mp hy]
    have hP := (h.2.2 d hd).1
    have := hP.1
    refine ⟨by rw [List.length_map]; omega, fun z hz => ?_⟩
    obtain ⟨L, hL, rfl⟩ := List.mem_map.mp hz
    exact (pl_line (by have := (hP.2 L hL).1; omega)).1

/-! ### dicts by the ids -/
def tabF (f : Doc → D) (ds : List Doc) : List (L2.Key × D) := ds.map fun d => (Sum.inl d.1, f d)
theorem putD_new {κ α : Type} [DecidableEq κ] {kvs : List (κ × α)} {k : κ} {v : α} (h : ∀ e ∈ kvs, e.1 ≠ k) : putD kvs k v = kvs ++ [(k, v)] := by
  unfold putD
  rw [if_neg]
  intro z
  obtain ⟨e, he, hk⟩ := List.any_eq_true.mp z
  exact h e he (of_decide_eq_true hk)
theorem tabF_put {f : Doc → D} {ds : List Doc} (h : Docs ds) {i : Nat} {d : Doc} (hi : ds[i]? = some d) : putD (tabF f (ds.take i)) (Sum.inl d.1) (f d) = tabF f (ds.take (i + 1)) := by
  have hil := (List.getElem?_eq_some_iff.mp hi).1
  have hd : docAt ds i = d := by
    have := docAt_get hil
    rw [hi] at this
    exact (Option.some.inj this).symm
  rw [putD_new]
  · unfold tabF
    rw [List.take_add_one, hi, Option.toList_some, List.map_append]
    rfl
  · intro e he z
    obtain ⟨d', hd', rfl⟩ := List.mem_map.mp he
    obtain ⟨k, hk⟩ := List.mem_iff_getElem?.mp hd'
    rw [List.getElem?_take] at hk
    split at hk
    · rename_i hki
      have hlt := docs_lt h hki hil
      have hd2 : docAt ds k = d' := by
        have := docAt_get (ds := ds) (i := k) (by omega)
        rw [hk] at this
        exact (Option.some.inj this).symm
      rw [hd, hd2] at hlt
      have : d'.1 = d.1 := Sum.inl.inj z
      omega
    · cases hk
theorem tabF_get {f : Doc → D} {ds : List Doc} (h : Docs ds) {i : Nat} (hi : i < ds.length) : valD (tabF f ds) (Sum.inl (docAt ds i).1) = some (f (docAt ds i)) := by
  have key : ∀ (l : List Doc), (∀ d ∈ l, d.1 = (docAt ds i).1 → d = docAt ds i) → docAt ds i ∈ l → valD (tabF f l) (Sum.inl (docAt ds i).1) = some (f (docAt ds i)) := by
    intro l
    induction l with
    | nil => intro _ hm; cases hm
    | cons x l ih =>
      intro h1 hm
      show valD ((Sum.inl x.1, f x) :: tabF f l) _ = _
      rw [valD_cons]
      by_cases e : (Sum.inl x.1 : L2.Key) = Sum.inl (docAt ds i).1
      · rw [if_pos e, h1 x (List.mem_cons_self ..) (Sum.inl.inj e)]
      · rw [if_neg e]
        refine ih (fun d hd => h1 d (List.mem_cons_of_mem _ hd)) ?_
        rcases List.mem_cons.mp hm with z | z
        · exact absurd (by rw [z]) e
        · exact z
  refine key ds (fun d hd e => ?_) (docAt_mem hi)
  obtain ⟨k, hk⟩ := List.mem_iff_getElem?.mp hd
  have hkl := (List.getElem?_eq_some_iff.mp hk).1
  have hd2 : docAt ds k = d := by
    have := docAt_get hkl
    rw [hk] at this
    exact (Option.some.inj this).symm
  rw [← hd2] at e ⊢
  rcases Nat.lt_trichotomy k i with z | z | z
  · have := docs_lt h z hi
    omega
  · rw [z]
  · have := docs_lt h z hkl
    omega
/-! ### the alike ones meet -/
theorem tog_pos {n : Nat} {ds : List Doc} (h : Docs ds) {i j : Nat} (hi : i < ds.length) (hj : j < ds.length) : 1 ≤ tgA n ds i j ∧ tgA n ds i j ≤ 3000 ∧ cmA n ds i j ≤ 1010 := by
  obtain ⟨hP1, hne1⟩ := h.2.2 _ (docAt_mem hi)
  obtain ⟨hP2, hne2⟩ := h.2.2 _ (docAt_mem hj)
  have l1 := shs_len (n := n) hP1
  have l2 := shs_len (n := n) hP2
  have c1 := com_le n (docAt ds i).2 (docAt ds j).2
  have s1 := shs_pos (n := n) hne1
  unfold tgA cmA tog
  omega
theorem alk_meets {n : Nat} {p q : Int} {ds : List Doc} (h : Docs ds) {i j : Nat} (hi : i < ds.length) (hj : j < ds.length) (p1 : 1 ≤ p) (ha : alk n p q ds i j = true) : 0 < cmA n ds i j := by
  have ha : p * tgA n ds i j ≤ q * cmA n ds i j := of_decide_eq_true ha
  obtain ⟨t1, t2, t3⟩ := tog_pos (n := n) h hi hj
  rcases Nat.eq_zero_or_pos (cmA n ds i j) with z | z
  · rw [z] at ha
    have := Int.mul_le_mul p1 t1 (by omega) (by omega)
    simp at ha
    omega
  · exact z
theorem meetP_ids (n : Nat) (ds : List Doc) : meetP n ds = (mIx n ds).map (idsA ds) := by
  unfold meetP meetN mIx meetR
  rw [List.map_flatMap]
  congr 1
  funext i
  rw [List.map_map]
  rfl
theorem mem_mIx {n : Nat} {ds : List Doc} {e : Nat × Nat} (h : e ∈ mIx n ds) : e.1 < e.2 ∧ e.2 < ds.length := by
  unfold mIx at h
  obtain ⟨i, hi, h⟩ := List.mem_flatMap.mp h
  obtain ⟨j, hj, rfl⟩ := List.mem_map.mp h
  rw [List.mem_filter, List.mem_range] at hj
  exact ⟨(of_decide_eq_true hj.2).1, hj.1⟩
theorem fm_congr {α β : Type} {l : List α} {f g : α → List β} (h : ∀ x ∈ l, f x = g x) : l.flatMap f = l.flatMap g := by
  rw [List.flatMap_def, List.flatMap_def, List.map_congr_left h]
theorem alP_of {n : Nat} {p q : Int} {ds : List Doc} (h : Docs ds) (p1 : 1 ≤ p) : (mIx n ds).filter (fun e => alk n p q ds e.1 e.2) = alP n p q ds := by
  unfold mIx alP alN alR
  rw [List.filter_flatMap]
  refine fm_congr fun i hi => ?_
  rw [List.mem_range] at hi
  rw [List.filter_map, List.filter_filter]
  congr 1
  refine List.filter_congr fun j hj => ?_
  rw [List.mem_range] at hj
  show (alk n p q ds i j && decide (i < j ∧ 0 < cmA n ds i j)) = (decide (i < j) && alk n p q ds i j)
  cases ha : alk n p q ds i j with
  | false => simp
  | true =>
    have := alk_meets h hi hj p1 ha
    by_cases hij : i < j
    · simp [hij, this]
    · simp [hij]
theorem mIx_len (n : Nat) (ds : List Doc) : (mIx n ds).length ≤ ds.length * ds.length := by
  have := meetN_len n ds ds.length
  have e := congrArg List.length (meetP_ids n ds)
  rw [List.length_map] at e
  rw [← e]
  exact this
theorem alR_zero (n : Nat) (p q : Int) (ds : List Doc) (i : Nat) : alR n p q ds i (i + 1) = [] := by
  unfold alR
  rw [List.map_eq_nil_iff, List.filter_eq_nil_iff]
  intro j hj
  rw [List.mem_range] at hj
  simp
  omega
theorem alR_succ {n : Nat} {p q : Int} {ds : List Doc} {i m : Nat} (h : i < m) : alR n p q ds i (m + 1) = alR n p q ds i m ++ if alk n p q ds i m = true then [(i, m)] else [] := by
  unfold alR
  rw [List.range_succ, List.filter_append, List.map_append]
  congr 1
  by_cases hc : alk n p q ds i m = true
  · simp [h, hc]
  · simp [hc]
theorem alN_succ (n : Nat) (p q : Int) (ds : List Doc) (i : Nat) : alN n p q ds (i + 1) = alN n p q ds i ++ alR n p q ds i ds.length := by
  unfold alN
  rw [List.range_succ, List.flatMap_append, List.flatMap_cons, List.flatMap_nil, List.append_nil]
theorem alR_len (n : Nat) (p q : Int) (ds : List Doc) (i m : Nat) : (alR n p q ds i m).length ≤ m := by
  unfold alR
  rw [List.length_map]
  exact Nat.le_trans (List.length_filter_le ..) (by rw [List.length_range]; exact Nat.le_refl _)
theorem alN_len (n : Nat) (p q : Int) (ds : List Doc) : ∀ i, (alN n p q ds i).length ≤ i * ds.length
  | 0 => by simp [alN]
  | i + 1 => by
    have := alN_len n p q ds i
    have := alR_len n p q ds i ds.length
    rw [alN_succ, List.length_append, Nat.add_mul]
    omega
theorem pl_rows (n m : Nat) (ds : List Doc) {l : List (Nat × Nat)} (h : l.length ≤ 10000000) : Pl (n + 2) (.lst (l.map (rowA m ds))) := by
  refine ⟨by rw [List.length_map]; exact h, fun x hx => ?_⟩
  obtain ⟨p, hp, rfl⟩ := List.mem_map.mp hx
  refine ⟨by simp, fun y hy => ?_⟩
  simp only [List.mem_cons, List.not_mem_nil, or_false] at hy
  rcases hy with rfl | rfl | rfl | rfl <;> exact pl_int _ _
theorem pure_alike_pairs : ∀ as Q Qe, sp_alike_pairs as Q Qe → w_alike_pairs (ends0 as Q) (initA 13 as) := by
  rintro as Q Qe ⟨ds, n, p, q, rfl, hds, hn, hn2, p1, pq, q1, hq⟩
  have hd8 := hds.1
  conv => whnf
  refine dc_i (fun i acc a => ∃ (x y : Option AV), acc = .dK (tabF (fun d => .lst (d.2.map lnD)) (ds.take i)) ∧ a = [some ⟨.no, .lst (ds.map docD)⟩, some ⟨.no, .int n⟩, some ⟨.no, .int p⟩, some ⟨.no, .int q⟩, none, none, none, none, none, none, none, x, y]) ⟨none, none, rfl, rfl⟩ ?_ ?_
  · rintro i acc a d hi ⟨x, y, rfl, rfl⟩
    rw [List.getElem?_map, Option.map_eq_some_iff] at hi
    obtain ⟨dc, hdi, rfl⟩ := hi
    have hil := (List.getElem?_eq_some_iff.mp hdi).1
    have hput := tabF_put (f := fun d => .lst (d.2.map lnD)) hds hdi
    conv => whnf
    refine ⟨rfl, ?_⟩
    conv => whnf
    refine ⟨smaller (by unfold tabF; rw [List.length_map, List.length_take]; omega), _, _, ?_, rfl⟩
    exact congrArg D.dK hput
  · rintro acc a ⟨x, y, rfl, rfl⟩
    rw [List.length_map, List.take_length]
    (try simp only [putBack, hold, resOf, initA, keepNo, wipeA, List.set_cons_zero, List.set_cons_succ, List.getElem?_cons_zero, List.getElem?_cons_succ, List.map_cons, List.map_nil, List.replicate_succ, List.replicate_zero, List.length_cons, List.length_nil, List.cons_append, List.nil_append, Nat.reduceSub, Nat.reduceAdd, Nat.zero_add, List.replicate])
    conv => whnf
    refine ⟨(by first | omega | exact ⟨by omega, by omega⟩ | exact small (by simp only [List.length_cons, List.length_nil, List.length_append, List.length_map, ds_len, DS.rangeD_len]; try omega) | exact smaller (by simp only [List.length_cons, List.length_nil, List.length_append, List.length_map, ds_len, DS.rangeD_len]; omega) | exact cmul_r (by decide) (by decide) | exact cmul_l (by decide) (by decide) | exact ⟨by decide, by decide⟩ | exact cmul_l (by omega) (by omega) | exact cmul_r (by omega) (by omega) | (simp only [List.length_cons, List.length_nil, List.length_append, List.length_map, ds_len]; omega)), ?_⟩
    (try simp only [putBack, hold, resOf, initA, keepNo, wipeA, List.set_cons_zero, List.set_cons_succ, List.getElem?_cons_zero, List.getElem?_cons_succ, List.map_cons, List.map_nil, List.replicate_succ, List.replicate_zero, List.length_cons, List.length_nil, List.cons_append, List.nil_append, Nat.reduceSub, Nat.reduceAdd, Nat.zero_add, List.replicate])
    conv => whnf
    refine callS_i ⟨_, _, rfl, hds, hn, hn2, ?_⟩
    (try simp only [putBack, hold, resOf, initA, keepNo, wipeA, List.set_cons_zero, List.set_cons_succ, List.getElem?_cons_zero, List.getElem?_cons_succ, List.map_cons, List.map_nil, List.replicate_succ, List.replicate_zero, List.length_cons, List.length_nil, List.cons_append, List.nil_append, Nat.reduceSub, Nat.reduceAdd, Nat.zero_add, List.replicate])
    have hmx := mIx_len n ds
    have hmx2 : ds.length * ds.length ≤ 8 * 8 := Nat.mul_le_mul hd8 hd8
    rw [meetP_ids, List.map_map]
    conv => whnf
    refine for_i (fun k a => ∃ (x6 x7 x8 x9 x10 : Option AV), a = [some ⟨.no, .lst (ds.map docD)⟩, some ⟨.no, .int n⟩, some ⟨.no, .int p⟩, some ⟨.no, .int q⟩, some ⟨.own, .dK (tabF (fun d => .lst (d.2.map lnD)) ds)⟩, some ⟨.own, .lst ((((mIx n ds).take k).filter fun e => alk n p q ds e.1 e.2).map (rowA n ds))⟩, x6, x7, x8, x9, x10, none, none]) ⟨_, _, _, _, _, rfl⟩ ?_ ?_
    · rintro k a d hk ⟨x6, x7, x8, x9, x10, rfl⟩
      rw [List.getElem?_map, Option.map_eq_some_iff] at hk
      obtain ⟨e, he, rfl⟩ := hk
      have hfl : (((mIx n ds).take k).filter fun e => alk n p q ds e.1 e.2).length ≤ 64 := by
        have h1 := List.length_filter_le (fun e : Nat × Nat => alk n p q ds e.1 e.2) ((mIx n ds).take k)
        rw [List.length_take] at h1
        omega
      obtain ⟨h1, h2⟩ := mem_mIx (List.mem_of_getElem? he)
      have hi : e.1 < ds.length := by omega
      obtain ⟨hP1, hne1⟩ := hds.2.2 _ (docAt_mem hi)
      obtain ⟨hP2, hne2⟩ := hds.2.2 _ (docAt_mem h2)
      have hnext := take_filter (fun e : Nat × Nat => alk n p q ds e.1 e.2) he
      conv => whnf
      refine ⟨rfl, ?_⟩
      (try simp only [putBack, hold, resOf, initA, keepNo, wipeA, List.set_cons_zero, List.set_cons_succ, List.getElem?_cons_zero, List.getElem?_cons_succ, List.map_cons, List.map_nil, List.replicate_succ, List.replicate_zero, List.length_cons, List.length_nil, List.cons_append, List.nil_append, Nat.reduceSub, Nat.reduceAdd, Nat.zero_add, List.replicate])
      conv => whnf
      refine onO_of (tabF_get hds hi) ?_
      conv => whnf
      refine onO_of (tabF_get hds h2) ?_
      conv => whnf
      refine callS_i ⟨_, _, _, _, _, rfl, hP1, hP2, hn, hn2, p1, pq, q1, ?_⟩
      (try simp only [putBack, hold, resOf, initA, keepNo, wipeA, List.set_cons_zero, List.set_cons_succ, List.getElem?_cons_zero, List.getElem?_cons_succ, List.map_cons, List.map_nil, List.replicate_succ, List.replicate_zero, List.length_cons, List.length_nil, List.cons_append, List.nil_append, Nat.reduceSub, Nat.reduceAdd, Nat.zero_add, List.replicate])
      conv => whnf
      refine ⟨rfl, ?_⟩
      (try simp only [putBack, hold, resOf, initA, keepNo, wipeA, List.set_cons_zero, List.set_cons_succ, List.getElem?_cons_zero, List.getElem?_cons_succ, List.map_cons, List.map_nil, List.replicate_succ, List.replicate_zero, List.length_cons, List.length_nil, List.cons_append, List.nil_append, Nat.reduceSub, Nat.reduceAdd, Nat.zero_add, List.replicate])
      conv => whnf
      refine br_i (fun h => ?_) (fun h => ?_)
      · (try simp only [putBack, hold, resOf, initA, keepNo, wipeA, List.set_cons_zero, List.set_cons_succ, List.getElem?_cons_zero, List.getElem?_cons_succ, List.map_cons, List.map_nil, List.replicate_succ, List.replicate_zero, List.length_cons, List.length_nil, List.cons_append, List.nil_append, Nat.reduceSub, Nat.reduceAdd, Nat.zero_add, List.replicate])
        conv => whnf
        refine ⟨(by first | omega | exact ⟨by omega, by omega⟩ | exact small (by simp only [List.length_cons, List.length_nil, List.length_append, List.length_map, ds_len, DS.rangeD_len]; try omega) | exact smaller (by simp only [List.length_cons, List.length_nil, List.length_append, List.length_map, ds_len, DS.rangeD_len]; omega) | exact cmul_r (by decide) (by decide) | exact cmul_l (by decide) (by decide) | exact ⟨by decide, by decide⟩ | exact cmul_l (by omega) (by omega) | exact cmul_r (by omega) (by omega) | (simp only [List.length_cons, List.length_nil, List.length_append, List.length_map, ds_len]; omega)), ?_⟩
        conv => whnf
        refine ⟨smaller (by rw [List.length_map]; omega), ?_⟩
        rw [hnext, if_pos (show alk n p q ds e.1 e.2 = true from decide_eq_true h), List.map_append]
        exact ⟨_, _, _, _, _, rfl⟩
      · rw [hnext, if_neg (show ¬ alk n p q ds e.1 e.2 = true from fun z => h (of_decide_eq_true z)), List.append_nil]
        exact ⟨_, _, _, _, _, rfl⟩
    · rintro a ⟨x6, x7, x8, x9, x10, rfl⟩
      rw [List.length_map, List.take_length, alP_of hds p1]
      conv => whnf
      exact hq

theorem docs_inj {ds : List Doc} (h : Docs ds) {i j : Nat} (hi : i < ds.length) (hj : j < ds.length) (e : (docAt ds i).1 = (docAt ds j).1) : i = j := by
  rcases Nat.lt_trichotomy i j with z | z | z
  · have := docs_lt h z hj
    omega
  · exact z
  · have := docs_lt h z hi
    omega
theorem valD_map_ix {ds : List Doc} (h : Docs ds) (f : Nat → D) : ∀ {l : List Nat}, (∀ k ∈ l, k < ds.length) → ∀ {i : Nat}, i ∈ l → i < ds.length → valD (l.map fun k => ((Sum.inl (docAt ds k).1 : L2.Key), f k)) (Sum.inl (docAt ds i).1) = some (f i)
  | [], _, i, hi, _ => by cases hi
  | k :: l, hl, i, hi, hil => by
    rw [List.map_cons, valD_cons]
    by_cases e : (Sum.inl (docAt ds k).1 : L2.Key) = Sum.inl (docAt ds i).1
    · rw [if_pos e, docs_inj h (hl k (List.mem_cons_self ..)) hil (Sum.inl.inj e)]
    · rw [if_neg e]
      rcases List.mem_cons.mp hi with z | z
      · exact absurd (by rw [z]) e
      · exact valD_map_ix h f (fun k hk => hl k (List.mem_cons_of_mem _ hk)) z hil
theorem alP_mem {n : Nat} {p q : Int} {ds : List Doc} {e : Nat × Nat} : e ∈ alP n p q ds ↔ e.1 < e.2 ∧ e.2 < ds.length ∧ alk n p q ds e.1 e.2 = true := by
  unfold alP alN alR
  rw [List.mem_flatMap]
  constructor
  · rintro ⟨i, hi, h⟩
    obtain ⟨j, hj, rfl⟩ := List.mem_map.mp h
    rw [List.mem_filter, List.mem_range, Bool.and_eq_true] at hj
    exact ⟨of_decide_eq_true hj.2.1, hj.1, hj.2.2⟩
  · rintro ⟨h1, h2, h3⟩
    exact ⟨e.1, List.mem_range.mpr (by omega), List.mem_map.mpr ⟨e.2, List.mem_filter.mpr ⟨List.mem_range.mpr h2, by rw [h3, decide_eq_true h1]; rfl⟩, rfl⟩⟩
theorem alk_symm (n : Nat) (p q : Int) (ds : List Doc) (i j : Nat) : alk n p q ds i j = alk n p q ds j i := by
  unfold alk tgA cmA
  rw [tog_symm, com_symm]
theorem pure_Lalike : ∀ as Q Qe, sp_Lalike as Q Qe → w_Lalike (ends0 as Q) (initA 6 as) := by
  rintro as Q Qe ⟨ps, qs, n, p, q, rfl, hP, hQ, hn, hn2, p1, pq, q1, hq⟩
  have l1 := shs_len (n := n) hP
  have l2 := shs_len (n := n) hQ
  have c1 := com_le n ps qs
  have t1 : 0 ≤ tog n ps qs ∧ tog n ps qs ≤ 3000 := by
    unfold tog
    omega
  conv => whnf
  refine callS_i ⟨_, _, _, rfl, hP, hQ, hn, hn2, ?_⟩
  (try simp only [putBack, hold, resOf, initA, keepNo, wipeA, List.set_cons_zero, List.set_cons_succ, List.getElem?_cons_zero, List.getElem?_cons_succ, List.map_cons, List.map_nil, List.replicate_succ, List.replicate_zero, List.length_cons, List.length_nil, List.cons_append, List.nil_append, Nat.reduceSub, Nat.reduceAdd, Nat.zero_add, List.replicate])
  conv => whnf
  refine ⟨rfl, ?_⟩
  (try simp only [putBack, hold, resOf, initA, keepNo, wipeA, List.set_cons_zero, List.set_cons_succ, List.getElem?_cons_zero, List.getElem?_cons_succ, List.map_cons, List.map_nil, List.replicate_succ, List.replicate_zero, List.length_cons, List.length_nil, List.cons_append, List.nil_append, Nat.reduceSub, Nat.reduceAdd, Nat.zero_add, List.replicate])
  conv => whnf
  refine ⟨cmul_l (by omega) (by omega), ?_⟩
  conv => whnf
  refine ⟨cmul_l (by omega) (by omega), ?_⟩
  conv => whnf
  exact hq
theorem int_uniq : ∀ {xs ys : List Int}, xs.Pairwise (· < ·) → ys.Pairwise (· < ·) → (∀ p, p ∈ xs ↔ p ∈ ys) → xs = ys
  | [], [], _, _, _ => rfl
  | [], y :: ys, _, _, h => absurd ((h y).mpr (List.mem_cons_self ..)) (by simp)
  | x :: xs, [], _, _, h => absurd ((h x).mp (List.mem_cons_self ..)) (by simp)
  | x :: xs, y :: ys, h1, h2, h => by
    obtain ⟨a1, b1⟩ := List.pairwise_cons.mp h1
    obtain ⟨a2, b2⟩ := List.pairwise_cons.mp h2
    have e : x = y := by
      rcases List.mem_cons.mp ((h x).mp (List.mem_cons_self ..)) with e | m1
      · exact e
      · rcases List.mem_cons.mp ((h y).mpr (List.mem_cons_self ..)) with e | m2
        · exact e.symm
        · have := a1 y m2
          have := a2 x m1
          omega
    subst e
    rw [int_uniq b1 b2 fun p => ?_]
    constructor
    · intro m
      rcases List.mem_cons.mp ((h p).mp (List.mem_cons_of_mem _ m)) with e | z
      · have := a1 p m
        omega
      · exact z
    · intro m
      rcases List.mem_cons.mp ((h p).mpr (List.mem_cons_of_mem _ m)) with e | z
      · have := a2 p m
        omega
      · exact z
theorem int_strict {qs : List Int} (hn : qs.Nodup) (h : qs.Pairwise (· ≤ ·)) : qs.Pairwise (· < ·) := by
  refine (List.pairwise_and_iff.mpr ⟨h, hn⟩).imp fun {x y} ⟨z, w⟩ => ?_
  omega
theorem ids_sorted {ds : List Doc} (h : Docs ds) {l : List Nat} (hs : l.Pairwise (· < ·)) (hl : ∀ k ∈ l, k < ds.length) : (l.map fun j => (docAt ds j).1).Pairwise (· < ·) := by
  rw [List.pairwise_map]
  exact hs.imp_of_mem fun {a b} ha hb hab => docs_lt h hab (hl b hb)
theorem range_sorted (m : Nat) (P : Nat → Bool) : ((List.range m).filter P).Pairwise (· < ·) := (List.pairwise_lt_range (n := m)).filter P
theorem nodup_lt : ∀ (n : Nat) (G : List Nat), G.Nodup → (∀ x ∈ G, x < n) → G.length ≤ n := by
  intro n G h hl
  have : ∀ {A B : List Nat}, A.Nodup → (∀ L ∈ A, L ∈ B) → A.length ≤ B.length := by
    intro A
    induction A with
    | nil => intro B _ _; exact Nat.zero_le _
    | cons x A ih =>
      intro B h hs
      obtain ⟨h1, h2⟩ := List.nodup_cons.mp h
      have hx := hs x (List.mem_cons_self ..)
      have := ih (B := B.erase x) h2 fun L hL => by
        have hne : L ≠ x := fun e => h1 (e ▸ hL)
        exact (List.mem_erase_of_ne hne).mpr (hs L (List.mem_cons_of_mem _ hL))
      rw [List.length_erase_of_mem hx] at this
      have hp := List.length_pos_of_mem hx
      rw [List.length_cons]
      omega
  have := this (B := List.range n) h fun x hx => List.mem_range.mpr (hl x hx)
  rwa [List.length_range] at this
theorem nat_ints {S : List Nat} : (S.map fun j : Nat => D.int j) = Ds (S.map fun j : Nat => (j : Int)) := by
  unfold Ds
  rw [List.map_map]
  rfl
theorem any_nat (S : List Nat) (t : Nat) : ((S.map fun j : Nat => D.int j).any fun d => scEq d (.int t)) = decide (t ∈ S) := by
  rw [Bool.eq_iff_iff, List.any_eq_true, decide_eq_true_eq]
  constructor
  · rintro ⟨d, hd, h⟩
    obtain ⟨j, hj, rfl⟩ := List.mem_map.mp hd
    have h : ((j : Int) == (t : Int)) = true := h
    have : j = t := by
      have := of_decide_eq_true h
      omega
    exact this ▸ hj
  · intro h
    exact ⟨_, List.mem_map.mpr ⟨t, h, rfl⟩, by show ((t : Int) == (t : Int)) = true; simp⟩

theorem dstA_ok (P : Nat → Prop) : ∀ (f i : Nat), (dstA P f i = 99 ∧ ∀ j, i ≤ j → j < i + f → ¬ P j) ∨ (i ≤ dstA P f i ∧ dstA P f i < i + f ∧ P (dstA P f i) ∧ ∀ j, i ≤ j → j < dstA P f i → ¬ P j)
  | 0, i => .inl ⟨rfl, fun j h1 h2 => by omega⟩
  | f + 1, i => by
    unfold dstA
    by_cases h : P i
    · rw [if_pos h]
      exact .inr ⟨Nat.le_refl _, by omega, h, fun j h1 h2 => by omega⟩
    · rw [if_neg h]
      rcases dstA_ok P f (i + 1) with ⟨e, h2⟩ | ⟨h1, h2, h3, h4⟩
      · refine .inl ⟨e, fun j h3 h4 => ?_⟩
        by_cases z : j = i
        · rw [z]; exact h
        · exact h2 j (by omega) (by omega)
      · refine .inr ⟨by omega, by omega, h3, fun j h5 h6 => ?_⟩
        by_cases z : j = i
        · rw [z]; exact h
        · exact h4 j (by omega) h6
theorem lev_mono {G : Nat → Nat → Bool} {s v : Nat} : ∀ {n k : Nat}, n ≤ k → lev G s n v → lev G s k v
  | n, 0, h, l => by
    have : n = 0 := by omega
    rw [this] at l
    exact l
  | n, k + 1, h, l => by
    rcases Nat.lt_or_ge k n with z | z
    · have : n = k + 1 := by omega
      rw [← this]
      exact l
    · exact .inl (lev_mono z l)
theorem lev_lt {m : Nat} {G : Nat → Nat → Bool} (hG : GOk m G) {s : Nat} (hs : s < m) : ∀ {n v : Nat}, lev G s n v → v < m
  | 0, v, h => by
    have h : v = s := h
    rw [h]
    exact hs
  | n + 1, v, h => by
    rcases h with h | ⟨u, _, h⟩
    · exact lev_lt hG hs h
    · exact (hG.1 u v h).2
theorem filter_more {P Q : Nat → Bool} : ∀ {l : List Nat}, (∀ x, P x = true → Q x = true) → (l.filter P).length ≤ (l.filter Q).length
  | [], _ => Nat.le_refl _
  | x :: l, h => by
    have a := filter_more (l := l) h
    rw [List.filter_cons, List.filter_cons]
    by_cases hp : P x = true
    · rw [if_pos hp, if_pos (h x hp)]
      simp only [List.length_cons]
      omega
    · rw [if_neg hp]
      split
      · simp only [List.length_cons]
        omega
      · exact a
theorem filter_lt {P Q : Nat → Bool} : ∀ {l : List Nat} {v : Nat}, (∀ x, P x = true → Q x = true) → v ∈ l → Q v = true → P v = false → (l.filter P).length + 1 ≤ (l.filter Q).length
  | [], _, _, h, _, _ => by cases h
  | x :: l, v, h, hv, hq, hp => by
    rw [List.filter_cons, List.filter_cons]
    rcases List.mem_cons.mp hv with e | e
    · subst e
      rw [if_neg (by rw [hp]; exact Bool.false_ne_true), if_pos hq]
      have a := filter_more (l := l) h
      simp only [List.length_cons]
      omega
    · have a := filter_lt h e hq hp
      by_cases hp2 : P x = true
      · rw [if_pos hp2, if_pos (h x hp2)]
        simp only [List.length_cons]
        omega
      · rw [if_neg hp2]
        split
        · simp only [List.length_cons]
          omega
        · exact a
open Classical in
noncomputable def cntL (m : Nat) (G : Nat → Nat → Bool) (s n : Nat) : Nat := ((List.range m).filter fun v => decide (lev G s n v)).length
open Classical in
theorem lev_grow {m : Nat} {G : Nat → Nat → Bool} (hG : GOk m G) {s : Nat} (hs : s < m) : ∀ n, (∀ v, lev G s (n + 1) v → lev G s n v) ∨ n + 1 ≤ cntL m G s n
  | 0 => by
    right
    unfold cntL
    have : s ∈ (List.range m).filter fun v => decide (lev G s 0 v) := List.mem_filter.mpr ⟨List.mem_range.mpr hs, decide_eq_true rfl⟩
    have := List.length_pos_of_mem this
    omega
  | n + 1 => by
    by_cases h : ∀ v, lev G s (n + 1) v → lev G s n v
    · left
      intro v hv
      rcases hv with hv | ⟨u, hu, g⟩
      · exact hv
      · exact .inr ⟨u, h u hu, g⟩
    · right
      rcases lev_grow hG hs n with z | z
      · exact absurd z h
      · obtain ⟨v, hv⟩ := Classical.not_forall.mp h
        obtain ⟨hv1, hv2⟩ := Classical.not_imp.mp hv
        have := filter_lt (P := fun v => decide (lev G s n v)) (Q := fun v => decide (lev G s (n + 1) v)) (l := List.range m) (v := v) (fun x hx => decide_eq_true (.inl (of_decide_eq_true hx))) (List.mem_range.mpr (lev_lt hG hs hv1)) (decide_eq_true hv1) (decide_eq_false hv2)
        unfold cntL at z ⊢
        omega
theorem lev_stab {m : Nat} {G : Nat → Nat → Bool} (hG : GOk m G) {s v n : Nat} (hs : s < m) (h : lev G s n v) : lev G s m v := by
  have hst : ∀ v, lev G s (m + 1) v → lev G s m v := by
    rcases lev_grow hG hs m with z | z
    · exact z
    · have : cntL m G s m ≤ m := by
        unfold cntL
        exact Nat.le_trans (List.length_filter_le _ _) (by rw [List.length_range]; exact Nat.le_refl _)
      omega
  have go : ∀ k v, lev G s (m + k) v → lev G s m v := by
    intro k
    induction k with
    | zero => exact fun v h => h
    | succ k ih =>
      intro v h
      rcases h with h | ⟨u, hu, g⟩
      · exact ih v h
      · exact hst v (.inr ⟨u, ih u hu, g⟩)
  rcases Nat.le_total n m with z | z
  · exact lev_mono z h
  · exact go (n - m) v (by rw [show m + (n - m) = n by omega]; exact h)
section
variable {m : Nat} {G : Nat → Nat → Bool} {s v : Nat}
theorem dst_le (hG : GOk m G) (hs : s < m) {n : Nat} (h : lev G s n v) : dst m G s v ≤ n ∧ dst m G s v ≤ m ∧ lev G s (dst m G s v) v := by
  have hm := lev_stab hG hs h
  unfold dst
  rcases dstA_ok (fun n => lev G s n v) (m + 1) 0 with ⟨_, h2⟩ | ⟨_, h2, h3, h4⟩
  · exact absurd hm (h2 m (Nat.zero_le _) (by omega))
  · refine ⟨?_, by omega, h3⟩
    rcases Nat.lt_or_ge n (dstA (fun n => lev G s n v) (m + 1) 0) with z | z
    · exact absurd h (h4 n (Nat.zero_le _) z)
    · exact z
theorem dst_lev (hm : m ≤ 8) (h : dst m G s v < 99) : lev G s (dst m G s v) v := by
  unfold dst at *
  rcases dstA_ok (fun n => lev G s n v) (m + 1) 0 with ⟨h1, _⟩ | ⟨_, _, h3, _⟩
  · omega
  · exact h3
theorem dst_self (hG : GOk m G) (hs : s < m) : dst m G s s = 0 := by
  have := (dst_le (v := s) hG hs (n := 0) rfl).1
  omega
theorem dst_zero (hm : m ≤ 8) (h : dst m G s v = 0) : v = s := by
  have := dst_lev hm (show dst m G s v < 99 by omega)
  rw [h] at this
  exact this
theorem dst_step (hG : GOk m G) (hm : m ≤ 8) (hs : s < m) {u : Nat} (hu : dst m G s u < 99) (g : G u v = true) : dst m G s v ≤ dst m G s u + 1 :=
  (dst_le hG hs (n := dst m G s u + 1) (.inr ⟨u, dst_lev hm hu, g⟩)).1
theorem dst_small (hG : GOk m G) (hm : m ≤ 8) (hs : s < m) (h : dst m G s v < 99) : dst m G s v ≤ m ∧ v < m :=
  ⟨(dst_le hG hs (dst_lev hm h)).2.1, lev_lt hG hs (dst_lev hm h)⟩
theorem lev_sym (hG : GOk m G) (hs : s < m) : ∀ {n v : Nat}, lev G s n v → ∃ k, lev G v k s
  | 0, v, h => by
    have h : v = s := h
    rw [h]
    exact ⟨0, rfl⟩
  | n + 1, v, h => by
    rcases h with h | ⟨u, hu, g⟩
    · exact lev_sym hG hs h
    · obtain ⟨k, hk⟩ := lev_sym hG hs hu
      have : ∀ k s, lev G u k s → ∃ j, lev G v j s := by
        intro k
        induction k with
        | zero =>
          intro s h
          have h : s = u := h
          rw [h]
          exact ⟨1, .inr ⟨v, rfl, by rw [hG.2]; exact g⟩⟩
        | succ k ih =>
          intro s h
          rcases h with h | ⟨w, hw, g2⟩
          · exact ih s h
          · obtain ⟨j, hj⟩ := ih w hw
            exact ⟨j + 1, .inr ⟨w, hj, g2⟩⟩
      exact this k s hk
/-- one that is nearer by one -/
theorem clo_some (hG : GOk m G) (hm : m ≤ 8) (hs : s < m) (h : dst m G s v < 99) (h0 : 0 < dst m G s v) : ∃ u r, clo m G s v = u :: r ∧ u < m ∧ G v u = true ∧ dst m G s u + 1 = dst m G s v := by
  have hl := dst_lev hm h
  obtain ⟨k, hk⟩ : ∃ k, dst m G s v = k + 1 := ⟨dst m G s v - 1, by omega⟩
  rw [hk] at hl
  have hmem : ∃ u, u ∈ clo m G s v := by
    rcases hl with hl | ⟨u, hu, g⟩
    · have := (dst_le hG hs hl).1
      omega
    · have h1 := dst_le hG hs hu
      have h2 := dst_step hG hm hs (show dst m G s u < 99 by omega) g
      refine ⟨u, ?_⟩
      unfold clo
      rw [List.mem_filter, Bool.and_eq_true, hG.2, decide_eq_true_eq]
      exact ⟨List.mem_range.mpr (hG.1 u v g).1, g, by omega⟩
  cases e : clo m G s v with
  | nil => obtain ⟨u, hu⟩ := hmem; rw [e] at hu; cases hu
  | cons u r =>
    have hu : u ∈ clo m G s v := by rw [e]; exact List.mem_cons_self ..
    unfold clo at hu
    rw [List.mem_filter, Bool.and_eq_true, decide_eq_true_eq] at hu
    exact ⟨u, r, rfl, List.mem_range.mp hu.1, hu.2.1, hu.2.2⟩
theorem node_ok (hG : GOk m G) (hm : m ≤ 8) {κ st : Nat} (hs : κ < m) (hst : st < m) (h : dst m G κ st < 99) : ∀ k, k ≤ dst m G κ st → nodeAt m G κ st k < m ∧ dst m G κ (nodeAt m G κ st k) = dst m G κ st - k
  | 0, _ => ⟨hst, rfl⟩
  | k + 1, hk => by
    obtain ⟨a, b⟩ := node_ok hG hm hs hst h k (by omega)
    obtain ⟨u, r, e, hu, g, hd⟩ := clo_some hG hm hs (v := nodeAt m G κ st k) (by omega) (by omega)
    have en : nodeAt m G κ st (k + 1) = u := by
      show (clo m G κ (nodeAt m G κ st k)).headD 0 = u
      rw [e]
      rfl
    rw [en]
    exact ⟨hu, by omega⟩
theorem kep_ok (hG : GOk m G) (hm : m ≤ 8) {st : Nat} (hst : st < m) : ∃ r, ((List.range m).filter fun k => decide (dst m G st k < 99)) = kep m G st :: r ∧ kep m G st < m ∧ dst m G st (kep m G st) < 99 ∧ (∀ k, dst m G st k < 99 → kep m G st ≤ k) ∧ dst m G (kep m G st) st < 99 := by
  have hmem : st ∈ (List.range m).filter fun k => decide (dst m G st k < 99) := List.mem_filter.mpr ⟨List.mem_range.mpr hst, decide_eq_true (by rw [dst_self hG hst]; omega)⟩
  have hsrt : ((List.range m).filter fun k => decide (dst m G st k < 99)).Pairwise (· < ·) := (List.pairwise_lt_range (n := m)).filter _
  cases e : (List.range m).filter fun k => decide (dst m G st k < 99) with
  | nil => rw [e] at hmem; cases hmem
  | cons a r =>
    have ek : kep m G st = a := by
      unfold kep
      rw [e]
      rfl
    rw [ek]
    have ha : a ∈ (List.range m).filter fun k => decide (dst m G st k < 99) := by rw [e]; exact List.mem_cons_self ..
    obtain ⟨ha1, ha2⟩ := List.mem_filter.mp ha
    have ha2 := of_decide_eq_true ha2
    refine ⟨r, rfl, List.mem_range.mp ha1, ha2, fun k hk => ?_, ?_⟩
    · have hk2 : k ∈ a :: r := by
        rw [← e]
        exact List.mem_filter.mpr ⟨List.mem_range.mpr (dst_small hG hm hst hk).2, decide_eq_true hk⟩
      rw [e] at hsrt
      rcases List.mem_cons.mp hk2 with z | z
      · omega
      · exact Nat.le_of_lt ((List.pairwise_cons.mp hsrt).1 k z)
    · obtain ⟨k, hk⟩ := lev_sym hG hst (dst_lev hm ha2)
      have := (dst_le hG (List.mem_range.mp ha1) hk).2.1
      omega
end
/-! ### the neighbours -/
theorem tab_app {κ : Type} [DecidableEq κ] {mk : List (κ × D) → D} {g : Gm} {root : Addr} {es : List (κ × Addr × List D)} {key : κ} {xs : List D} (h : TabG mk g root es) (hv : valD (tabOf es) key = some xs) :
    ∃ q, valD (es.map fun e => (e.1, D.adr e.2.1)) key = some (.adr q) ∧ gAt g q = some (.lst xs) ∧ ∀ d, ∃ es', TabG mk ((q, .lst (xs ++ [d])) :: g) root es' ∧ tabOf es' = addT (tabOf es) key d := by
  rcases valD_es key es with ⟨e, he, hk, hv1, hv2⟩ | ⟨_, _, hv2⟩
  · have := tab_step h (key := key) (k := fun q g2 => ∃ ys, gAt g2 q = some (.lst ys) ∧ ys = (valD (tabOf es) key).getD [] ∧ ∀ d, ∃ es', TabG mk ((q, .lst (ys ++ [d])) :: g2) root es' ∧ tabOf es' = addT (tabOf es) key d) fun q g2 ys h1 h2 h3 => ⟨ys, h1, h2, h3⟩
    rw [hv1] at this
    obtain ⟨ys, h1, h2, h3⟩ := (this : ∃ ys, gAt g e.2.1 = some (.lst ys) ∧ ys = (valD (tabOf es) key).getD [] ∧ ∀ d, ∃ es', TabG mk ((e.2.1, .lst (ys ++ [d])) :: g) root es' ∧ tabOf es' = addT (tabOf es) key d)
    rw [hv] at h2
    have h2 : ys = xs := h2
    subst h2
    exact ⟨_, hv1, h1, h3⟩
  · rw [hv2] at hv
    cases hv
def adjE (E : List (Nat × Nat)) (i : Nat) : List Nat := E.flatMap fun e => (if e.1 = i then [e.2] else []) ++ (if e.2 = i then [e.1] else [])
def adjT (ds : List Doc) (A : Nat → List Nat) : List (L2.Key × List D) := (List.range ds.length).map fun i => (Sum.inl (idn ds i), Ds ((A i).map (idn ds)))
theorem valD_ixl {ds : List Doc} (h : Docs ds) {α : Type} (f : Nat → α) : ∀ {l : List Nat}, (∀ k ∈ l, k < ds.length) → ∀ {i : Nat}, i ∈ l → i < ds.length → valD (l.map fun k => ((Sum.inl (idn ds k) : L2.Key), f k)) (Sum.inl (idn ds i)) = some (f i)
  | [], _, i, hi, _ => by cases hi
  | k :: l, hl, i, hi, hil => by
    rw [List.map_cons, valD_cons]
    by_cases e : (Sum.inl (idn ds k) : L2.Key) = Sum.inl (idn ds i)
    · rw [if_pos e, docs_inj h (hl k (List.mem_cons_self ..)) hil (Sum.inl.inj e)]
    · rw [if_neg e]
      rcases List.mem_cons.mp hi with z | z
      · exact absurd (by rw [z]) e
      · exact valD_ixl h f (fun k hk => hl k (List.mem_cons_of_mem _ hk)) z hil
theorem adjT_get {ds : List Doc} (h : Docs ds) (A : Nat → List Nat) {i : Nat} (hi : i < ds.length) : valD (adjT ds A) (Sum.inl (idn ds i)) = some (Ds ((A i).map (idn ds))) :=
  valD_ixl h (fun k => Ds ((A k).map (idn ds))) (fun k hk => List.mem_range.mp hk) (List.mem_range.mpr hi) hi
theorem adjT_add {ds : List Doc} (h : Docs ds) (A : Nat → List Nat) {i v : Nat} (hi : i < ds.length) : addT (adjT ds A) (Sum.inl (idn ds i)) (.int (idn ds v)) = adjT ds fun k => if k = i then A k ++ [v] else A k := by
  have hany : ((adjT ds A).any fun kv => decide (kv.1 = Sum.inl (idn ds i))) = true := by
    rw [valD_any, adjT_get h A hi]
    rfl
  unfold addT
  rw [if_pos hany]
  unfold adjT
  rw [List.map_map]
  refine List.map_congr_left fun k hk => ?_
  rw [List.mem_range] at hk
  show (if (Sum.inl (idn ds k) : L2.Key) = Sum.inl (idn ds i) then ((Sum.inl (idn ds k) : L2.Key), Ds ((A k).map (idn ds)) ++ [D.int (idn ds v)]) else (Sum.inl (idn ds k), Ds ((A k).map (idn ds)))) = (Sum.inl (idn ds k), Ds ((if k = i then A k ++ [v] else A k).map (idn ds)))
  by_cases e : k = i
  · subst e
    rw [if_pos rfl, if_pos rfl, List.map_append]
    show _ = (_, Ds (_ ++ _))
    unfold Ds
    rw [List.map_append]
    rfl
  · rw [if_neg (show ¬ ((Sum.inl (idn ds k) : L2.Key) = Sum.inl (idn ds i)) from fun z => e (docs_inj h hk hi (Sum.inl.inj z))), if_neg e]
theorem adjT_congr {ds : List Doc} {A B : Nat → List Nat} (h : ∀ i, i < ds.length → A i = B i) : adjT ds A = adjT ds B := by
  unfold adjT
  refine List.map_congr_left fun k hk => ?_
  rw [h k (List.mem_range.mp hk)]
theorem adjE_take {E : List (Nat × Nat)} {k : Nat} {e : Nat × Nat} (he : E[k]? = some e) (i : Nat) : adjE (E.take (k + 1)) i = adjE (E.take k) i ++ ((if e.1 = i then [e.2] else []) ++ (if e.2 = i then [e.1] else [])) := by
  unfold adjE
  rw [List.take_add_one, he, List.flatMap_append]
  congr 1
  exact List.append_nil _
theorem adjE_mem {E : List (Nat × Nat)} {i x : Nat} : x ∈ adjE E i ↔ (i, x) ∈ E ∨ (x, i) ∈ E := by
  unfold adjE
  rw [List.mem_flatMap]
  constructor
  · rintro ⟨⟨a, b⟩, he, h⟩
    rcases List.mem_append.mp h with h | h
    · split at h
      · rename_i z
        have z : a = i := z
        have : x = b := List.mem_singleton.mp h
        rw [this, ← z]
        exact .inl he
      · cases h
    · split at h
      · rename_i z
        have z : b = i := z
        have : x = a := List.mem_singleton.mp h
        rw [this, ← z]
        exact .inr he
      · cases h
  · rintro (h | h)
    · exact ⟨_, h, List.mem_append.mpr (.inl (by rw [if_pos rfl]; exact List.mem_singleton.mpr rfl))⟩
    · exact ⟨_, h, List.mem_append.mpr (.inr (by rw [if_pos rfl]; exact List.mem_singleton.mpr rfl))⟩
theorem adjE_nodup {E : List (Nat × Nat)} (hE : E.Nodup) (hlt : ∀ e ∈ E, e.1 < e.2) (i : Nat) : (adjE E i).Nodup := by
  induction E with
  | nil => exact List.nodup_nil
  | cons e E ih =>
    obtain ⟨h1, h2⟩ := List.nodup_cons.mp hE
    have ih := ih h2 fun e he => hlt e (List.mem_cons_of_mem _ he)
    have he := hlt e (List.mem_cons_self ..)
    show (((if e.1 = i then [e.2] else []) ++ (if e.2 = i then [e.1] else [])) ++ adjE E i).Nodup
    have hno : ∀ x, x ∈ (if e.1 = i then [e.2] else []) ++ (if e.2 = i then [e.1] else []) → x ∉ adjE E i := by
      intro x hx hx2
      have hx : (e.1 = i ∧ x = e.2) ∨ (e.2 = i ∧ x = e.1) := by
        rcases List.mem_append.mp hx with h | h
        · split at h
          · rename_i z
            exact .inl ⟨z, List.mem_singleton.mp h⟩
          · cases h
        · split at h
          · rename_i z
            exact .inr ⟨z, List.mem_singleton.mp h⟩
          · cases h
      rcases adjE_mem.mp hx2 with h | h
      · have := hlt _ (List.mem_cons_of_mem _ h)
        dsimp only at this
        rcases hx with ⟨rfl, rfl⟩ | ⟨rfl, rfl⟩
        · exact h1 h
        · omega
      · have := hlt _ (List.mem_cons_of_mem _ h)
        dsimp only at this
        rcases hx with ⟨rfl, rfl⟩ | ⟨rfl, rfl⟩
        · omega
        · exact h1 h
    rw [List.nodup_append]
    refine ⟨?_, ih, fun a ha b hb z => hno a ha (by rw [z]; exact hb)⟩
    by_cases z : e.1 = i
    · rw [if_pos z, if_neg (by omega), List.append_nil]
      simp
    · rw [if_neg z, List.nil_append]
      split
      · simp
      · exact List.nodup_nil
theorem alP_nodup {n : Nat} {p q : Int} {ds : List Doc} (h : Docs ds) (p1 : 1 ≤ p) : (alP n p q ds).Nodup := by
  have hm : (mIx n ds).Nodup := by
    have h1 := meetP_sorted h n
    rw [meetP_ids, List.pairwise_map] at h1
    refine h1.imp fun {a b} hab e => ?_
    subst e
    unfold lxP at hab
    omega
  rw [← alP_of h p1]
  exact hm.filter _
theorem nbr_adj {n : Nat} {p q : Int} {ds : List Doc} (h : Docs ds) {i x : Nat} (hi : i < ds.length) : x ∈ adjE (alP n p q ds) i ↔ x ∈ nbr ds.length (Gd n p q ds) i := by
  rw [adjE_mem, alP_mem, alP_mem]
  unfold nbr Gd
  rw [List.mem_filter, List.mem_range, Bool.and_eq_true, Bool.and_eq_true, Bool.and_eq_true, decide_eq_true_eq, decide_eq_true_eq, decide_eq_true_eq]
  dsimp only
  rw [alk_symm n p q ds x i]
  constructor
  · rintro (⟨h1, h2, h3⟩ | ⟨h1, h2, h3⟩)
    · exact ⟨h2, by omega, hi, h2, h3⟩
    · exact ⟨by omega, by omega, hi, by omega, h3⟩
  · rintro ⟨h1, h2, _, _, h3⟩
    rcases Nat.lt_or_gt_of_ne h2 with z | z
    · exact .inr ⟨z, hi, h3⟩
    · exact .inl ⟨z, h1, h3⟩
theorem nbr_of {n : Nat} {p q : Int} {ds : List Doc} (h : Docs ds) (p1 : 1 ≤ p) {i : Nat} (hi : i < ds.length) {ns : List Int} (hperm : ns.Perm ((adjE (alP n p q ds) i).map (idn ds))) (hs : ns.Pairwise (· ≤ ·)) : ns = (nbr ds.length (Gd n p q ds) i).map (idn ds) := by
  have hlt : ∀ x ∈ adjE (alP n p q ds) i, x < ds.length := fun x hx => by
    have := (nbr_adj h hi).mp hx
    unfold nbr at this
    exact List.mem_range.mp (List.mem_filter.mp this).1
  have hnd : ((adjE (alP n p q ds) i).map (idn ds)).Nodup := by
    have := adjE_nodup (alP_nodup (n := n) (q := q) h p1) (fun e he => (alP_mem.mp he).1) i
    refine List.pairwise_map.mpr (this.imp_of_mem fun {a b} ha hb hab e => hab (docs_inj h (hlt a ha) (hlt b hb) e))
  refine int_uniq (int_strict (hperm.nodup_iff.mpr hnd) hs) (ids_sorted h (range_sorted _ _) fun k hk => List.mem_range.mp (List.mem_filter.mp hk).1) fun x => ?_
  rw [hperm.mem_iff, List.mem_map, List.mem_map]
  constructor
  · rintro ⟨y, hy, rfl⟩
    exact ⟨y, (nbr_adj h hi).mp hy, rfl⟩
  · rintro ⟨y, hy, rfl⟩
    exact ⟨y, (nbr_adj h hi).mpr hy, rfl⟩

theorem pure_u_neighbours : ∀ as Q Qe, sp_u_neighbours as Q Qe → w_u_neighbours (ends0 as Q) (initA 11 as) := by
  rintro as Q Qe ⟨ds, n, p, q, rfl, hds, hn, hn2, p1, pq, q1, hq⟩
  have hd8 := hds.1
  have hal := alN_len n p q ds ds.length
  have hal2 : ds.length * ds.length ≤ 8 * 8 := Nat.mul_le_mul hd8 hd8
  conv => whnf
  refine ⟨by rw [List.length_map]; exact smaller (by omega), (List.range ds.length).map fun i => Sum.inl (idn ds i), by rw [List.length_map, List.length_map, List.length_range], ?_, ?_, ?_⟩
  · refine List.pairwise_map.mpr ((List.nodup_range (n := ds.length)).imp_of_mem fun {a b} ha hb hab e => hab (docs_inj hds (List.mem_range.mp ha) (List.mem_range.mp hb) (Sum.inl.inj e)))
  · intro i d hi
    rw [List.getElem?_map, Option.map_eq_some_iff] at hi
    obtain ⟨dc, hdi, rfl⟩ := hi
    have hil := (List.getElem?_eq_some_iff.mp hdi).1
    have hdc : docAt ds i = dc := by
      have := docAt_get hil
      rw [hdi] at this
      exact (Option.some.inj this).symm
    subst hdc
    conv => whnf
    refine ⟨rfl, ?_⟩
    (try simp only [putBack, hold, resOf, initA, keepNo, wipeA, List.set_cons_zero, List.set_cons_succ, List.getElem?_cons_zero, List.getElem?_cons_succ, List.map_cons, List.map_nil, List.replicate_succ, List.replicate_zero, List.length_cons, List.length_nil, List.cons_append, List.nil_append, Nat.reduceSub, Nat.reduceAdd, Nat.zero_add, List.replicate])
    refine ⟨?_, rfl⟩
    rw [List.getElem?_map, List.getElem?_range hil]
    rfl
  · intro g2 root es htab htabOf
    have ht0 : tabOf es = adjT ds (adjE ((alP n p q ds).take 0)) := by
      rw [htabOf, List.map_map]
      rfl
    (try simp only [putBack, hold, resOf, initA, keepNo, wipeA, List.set_cons_zero, List.set_cons_succ, List.getElem?_cons_zero, List.getElem?_cons_succ, List.map_cons, List.map_nil, List.replicate_succ, List.replicate_zero, List.length_cons, List.length_nil, List.cons_append, List.nil_append, Nat.reduceSub, Nat.reduceAdd, Nat.zero_add, List.replicate])
    conv => whnf
    refine callS_i ⟨_, _, _, _, rfl, hds, hn, hn2, p1, pq, q1, ?_⟩
    (try simp only [putBack, hold, resOf, initA, keepNo, wipeA, List.set_cons_zero, List.set_cons_succ, List.getElem?_cons_zero, List.getElem?_cons_succ, List.map_cons, List.map_nil, List.replicate_succ, List.replicate_zero, List.length_cons, List.length_nil, List.cons_append, List.nil_append, Nat.reduceSub, Nat.reduceAdd, Nat.zero_add, List.replicate])
    conv => whnf
    refine form_i (fun k g a => ∃ (es : List (L2.Key × Addr × List D)) (x5 x6 x7 x8 : Option AV), a = [some ⟨.no, .lst (ds.map docD)⟩, some ⟨.no, .int n⟩, some ⟨.no, .int p⟩, some ⟨.no, .int q⟩, some ⟨.no, .adr root⟩, x5, x6, x7, x8, none, none] ∧ TabG D.dK g root es ∧ tabOf es = adjT ds (adjE ((alP n p q ds).take k))) ⟨es, none, none, none, none, rfl, htab, ht0⟩ ?_ ?_
    · rintro k g a d hk ⟨es, x5, x6, x7, x8, rfl, htab, ht⟩
      rw [List.getElem?_map, Option.map_eq_some_iff] at hk
      obtain ⟨e, he, rfl⟩ := hk
      obtain ⟨e1, e2, e3⟩ := alP_mem.mp (List.mem_of_getElem? he)
      have hlenA : ∀ i, (adjE ((alP n p q ds).take k) i).length ≤ 200 := by
        intro i
        unfold adjE
        have : ∀ E : List (Nat × Nat), (E.flatMap fun e => (if e.1 = i then [e.2] else []) ++ (if e.2 = i then [e.1] else [])).length ≤ 2 * E.length := by
          intro E
          induction E with
          | nil => exact Nat.le_refl _
          | cons e E ih =>
            rw [List.flatMap_cons, List.length_append, List.length_append, List.length_cons]
            have : (if e.1 = i then [e.2] else []).length ≤ 1 := by split <;> simp
            have : (if e.2 = i then [e.1] else []).length ≤ 1 := by split <;> simp
            omega
        have h1 := this ((alP n p q ds).take k)
        have h2 : ((alP n p q ds).take k).length ≤ 64 := by
          rw [List.length_take]
          unfold alP
          omega
        omega
      have hv1 := adjT_get hds (adjE ((alP n p q ds).take k)) (show e.1 < ds.length by omega)
      rw [← ht] at hv1
      obtain ⟨q1, hq1, hg1, hst1⟩ := tab_app htab hv1
      conv => whnf
      refine ⟨rfl, ?_⟩
      (try simp only [putBack, hold, resOf, initA, keepNo, wipeA, List.set_cons_zero, List.set_cons_succ, List.getElem?_cons_zero, List.getElem?_cons_succ, List.map_cons, List.map_nil, List.replicate_succ, List.replicate_zero, List.length_cons, List.length_nil, List.cons_append, List.nil_append, Nat.reduceSub, Nat.reduceAdd, Nat.zero_add, List.replicate])
      conv => whnf
      refine onO_of htab.top ?_
      conv => whnf
      refine onO_of hq1 ?_
      conv => whnf
      refine onLs_of hg1 ?_
      conv => whnf
      refine onLs_of hg1 ⟨smaller (by unfold Ds; rw [List.length_map, List.length_map]; have := hlenA e.1; omega), ?_⟩
      obtain ⟨es1, htab1, ht1⟩ := hst1 (.int (idn ds e.2))
      rw [ht, adjT_add hds _ (show e.1 < ds.length by omega)] at ht1
      have hv2 := adjT_get hds (fun k_1 => if k_1 = e.1 then adjE ((alP n p q ds).take k) k_1 ++ [e.2] else adjE ((alP n p q ds).take k) k_1) e2
      rw [← ht1] at hv2
      obtain ⟨q2, hq2, hg2, hst2⟩ := tab_app htab1 hv2
      (try simp only [putBack, hold, resOf, initA, keepNo, wipeA, List.set_cons_zero, List.set_cons_succ, List.getElem?_cons_zero, List.getElem?_cons_succ, List.map_cons, List.map_nil, List.replicate_succ, List.replicate_zero, List.length_cons, List.length_nil, List.cons_append, List.nil_append, Nat.reduceSub, Nat.reduceAdd, Nat.zero_add, List.replicate])
      conv => whnf
      refine onO_of htab1.top ?_
      conv => whnf
      refine onO_of hq2 ?_
      conv => whnf
      refine onLs_of hg2 ?_
      conv => whnf
      refine onLs_of hg2 ⟨smaller (by rw [if_neg (show ¬ e.2 = e.1 by omega)]; unfold Ds; rw [List.length_map, List.length_map]; have := hlenA e.2; omega), ?_⟩
      obtain ⟨es2, htab2, ht2⟩ := hst2 (.int (idn ds e.1))
      rw [ht1, adjT_add hds _ e2] at ht2
      refine ⟨es2, _, _, _, _, rfl, htab2, ?_⟩
      rw [ht2]
      refine adjT_congr fun i hi => ?_
      rw [adjE_take he]
      by_cases z : i = e.2
      · rw [if_pos z, if_neg (show ¬ i = e.1 by omega), if_neg (show ¬ e.1 = i by omega), if_pos z.symm]
        rfl
      · rw [if_neg z]
        by_cases w : i = e.1
        · rw [if_pos w, if_pos w.symm, if_neg (fun y => z y.symm)]
          rfl
        · rw [if_neg w, if_neg (fun y => w y.symm), if_neg (fun y => z y.symm)]
          exact (List.append_nil _).symm
    · rintro g a ⟨es, x5, x6, x7, x8, rfl, htab, ht⟩
      rw [List.length_map, List.take_length] at ht
      conv => whnf
      refine ⟨es, htab, ?_⟩
      (try simp only [putBack, hold, resOf, initA, keepNo, wipeA, List.set_cons_zero, List.set_cons_succ, List.getElem?_cons_zero, List.getElem?_cons_succ, List.map_cons, List.map_nil, List.replicate_succ, List.replicate_zero, List.length_cons, List.length_nil, List.cons_append, List.nil_append, Nat.reduceSub, Nat.reduceAdd, Nat.zero_add, List.replicate])
      rw [ht]
      have hT : (adjT ds (adjE (alP n p q ds))).map (fun e => (e.1, D.lst e.2)) = (List.range ds.length).map fun i => ((Sum.inl (idn ds i) : L2.Key), D.lst (Ds ((adjE (alP n p q ds) i).map (idn ds)))) := by
        unfold adjT
        rw [List.map_map]
        rfl
      rw [hT]
      have hK : ((List.range ds.length).map fun i => ((Sum.inl (idn ds i) : L2.Key), D.lst (Ds ((adjE (alP n p q ds) i).map (idn ds))))).map (fun e => kD e.1) = (List.range ds.length).map fun i => D.int (idn ds i) := by
        rw [List.map_map]
        rfl
      have hget : ∀ i, i < ds.length → valD ((List.range ds.length).map fun i => ((Sum.inl (idn ds i) : L2.Key), D.lst (Ds ((adjE (alP n p q ds) i).map (idn ds))))) (Sum.inl (idn ds i)) = some (D.lst (Ds ((adjE (alP n p q ds) i).map (idn ds)))) := fun i hi => valD_ixl hds (fun i => D.lst (Ds ((adjE (alP n p q ds) i).map (idn ds)))) (fun k hk => List.mem_range.mp hk) (List.mem_range.mpr hi) hi
      generalize ((List.range ds.length).map fun i => ((Sum.inl (idn ds i) : L2.Key), D.lst (Ds ((adjE (alP n p q ds) i).map (idn ds))))) = T at hK hget ⊢
      conv => whnf
      rw [hK]
      (try simp only [putBack, hold, resOf, initA, keepNo, wipeA, List.set_cons_zero, List.set_cons_succ, List.getElem?_cons_zero, List.getElem?_cons_succ, List.map_cons, List.map_nil, List.replicate_succ, List.replicate_zero, List.length_cons, List.length_nil, List.cons_append, List.nil_append, Nat.reduceSub, Nat.reduceAdd, Nat.zero_add, List.replicate])
      refine dc_i (fun i acc a => ∃ x9 : Option AV, acc = .dK ((List.range i).map fun i => (Sum.inl (idn ds i), D.lst (Ds ((nbr ds.length (Gd n p q ds) i).map (idn ds))))) ∧ a = [some ⟨.no, .lst (ds.map docD)⟩, some ⟨.no, .int n⟩, some ⟨.no, .int p⟩, some ⟨.no, .int q⟩, some ⟨.no, .lK T⟩, x5, x6, x7, x8, x9, none]) ⟨_, rfl, rfl⟩ ?_ ?_
      · rintro i acc a d hi ⟨x9, rfl, rfl⟩
        rw [List.getElem?_map, Option.map_eq_some_iff] at hi
        obtain ⟨i', hi', rfl⟩ := hi
        obtain ⟨hil, hie⟩ := List.getElem?_eq_some_iff.mp hi'
        rw [List.length_range] at hil
        rw [List.getElem_range] at hie
        subst hie
        conv => whnf
        refine onO_of (hget i hil) ?_
        conv => whnf
        refine onO_of (intsOf_map ((adjE (alP n p q ds) i).map (idn ds))) ?_
        intro ns hperm hsort
        rw [nbr_of hds p1 hil hperm hsort]
        conv => whnf
        refine ⟨smaller (by rw [List.length_map, List.length_range]; omega), _, ?_, rfl⟩
        rw [putD_new, List.range_succ, List.map_append]
        · rfl
        · intro e he z
          obtain ⟨j, hj, rfl⟩ := List.mem_map.mp he
          have := List.mem_range.mp hj
          have := docs_inj hds (show j < ds.length by omega) hil (Sum.inl.inj z)
          omega
      · rintro acc a ⟨x9, rfl, rfl⟩
        rw [List.length_map, List.length_range]
        conv => whnf
        exact hq

/-! ### breadth first -/
structure Bf (m : Nat) (G : Nat → Nat → Bool) (s : Nat) (L : List (Nat × Nat)) (k : Nat) : Prop where
  kl : k ≤ L.length
  nd : (L.map (·.1)).Nodup
  st : (s, 0) ∈ L
  lv : ∀ e ∈ L, e.1 < m ∧ lev G s e.2 e.1
  pr : ∀ (j : Nat) (e : Nat × Nat), j < k → L[j]? = some e → ∀ v, v ≠ e.1 → G e.1 v = true → ∃ d', (v, d') ∈ L ∧ d' ≤ e.2 + 1
  so : L.Pairwise (fun a b => a.2 ≤ b.2)
  bd : ∀ e, L[k]? = some e → ∀ x ∈ L, x.2 ≤ e.2 + 1
section
variable {m : Nat} {G : Nat → Nat → Bool} {s k u d v : Nat} {L : List (Nat × Nat)}
theorem fst_fun (h : (L.map (·.1)).Nodup) {a b c : Nat} (h1 : (a, b) ∈ L) (h2 : (a, c) ∈ L) : b = c := by
  induction L with
  | nil => cases h1
  | cons e L ih =>
    rw [List.map_cons, List.nodup_cons] at h
    rcases List.mem_cons.mp h1 with e1 | e1
    · rcases List.mem_cons.mp h2 with e2 | e2
      · rw [← e1] at e2
        exact (congrArg Prod.snd e2).symm
      · exact absurd (List.mem_map.mpr ⟨_, e2, by rw [← e1]⟩) h.1
    · rcases List.mem_cons.mp h2 with e2 | e2
      · exact absurd (List.mem_map.mpr ⟨_, e1, by rw [← e2]⟩) h.1
      · exact ih h.2 e1 e2
theorem bf_len (h : Bf m G s L k) : L.length ≤ m := by
  have := nodup_lt m (L.map (·.1)) h.nd fun x hx => by
    obtain ⟨e, he, rfl⟩ := List.mem_map.mp hx
    exact (h.lv e he).1
  rw [List.length_map] at this
  exact this
theorem bf_add (hG : GOk m G) (h : Bf m G s L k) (hk : L[k]? = some (u, d)) (g : G u v = true) (hv : v ∉ L.map (·.1)) : Bf m G s (L ++ [(v, d + 1)]) k ∧ (L ++ [(v, d + 1)])[k]? = some (u, d) := by
  have hkl := (List.getElem?_eq_some_iff.mp hk).1
  have hk2 : (L ++ [(v, d + 1)])[k]? = some (u, d) := by rw [List.getElem?_append_left hkl]; exact hk
  have hu := h.lv _ (List.mem_of_getElem? hk)
  refine ⟨⟨by rw [List.length_append]; omega, ?_, List.mem_append.mpr (.inl h.st), ?_, ?_, ?_, ?_⟩, hk2⟩
  · rw [List.map_append, List.nodup_append]
    refine ⟨h.nd, by simp, fun a ha b hb z => hv ?_⟩
    have : b = v := by simpa using hb
    rw [← this, ← z]
    exact ha
  · intro e he
    rcases List.mem_append.mp he with he | he
    · exact h.lv e he
    · rw [List.mem_singleton.mp he]
      exact ⟨(hG.1 u v g).2, .inr ⟨u, hu.2, g⟩⟩
  · intro j e hj he w hw hg
    rw [List.getElem?_append_left (by omega)] at he
    obtain ⟨d', h1, h2⟩ := h.pr j e hj he w hw hg
    exact ⟨d', List.mem_append.mpr (.inl h1), h2⟩
  · rw [List.pairwise_append]
    refine ⟨h.so, by simp, fun a ha b hb => ?_⟩
    rw [List.mem_singleton.mp hb]
    exact h.bd _ hk a ha
  · intro e he x hx
    rw [hk2] at he
    obtain rfl := Option.some.inj he
    rcases List.mem_append.mp hx with hx | hx
    · exact h.bd _ hk x hx
    · rw [List.mem_singleton.mp hx]
      exact Nat.le_refl _
theorem bf_next (hG : GOk m G) (h : Bf m G s L k) (hk : L[k]? = some (u, d)) (hn : ∀ v ∈ nbr m G u, ∃ d', (v, d') ∈ L ∧ d' ≤ d + 1) : Bf m G s L (k + 1) := by
  have hkl := (List.getElem?_eq_some_iff.mp hk).1
  refine ⟨hkl, h.nd, h.st, h.lv, ?_, h.so, ?_⟩
  · intro j e hj he w hw hg
    rcases Nat.lt_or_ge j k with z | z
    · exact h.pr j e z he w hw hg
    · have : j = k := by omega
      subst this
      rw [hk] at he
      obtain rfl := Option.some.inj he
      refine hn w ?_
      unfold nbr
      rw [List.mem_filter, List.mem_range, Bool.and_eq_true, decide_eq_true_eq]
      exact ⟨(hG.1 _ _ hg).2, hw, hg⟩
  · intro e he x hx
    have h1 := h.bd _ hk x hx
    obtain ⟨h2, h3⟩ := List.getElem?_eq_some_iff.mp he
    obtain ⟨h4, h5⟩ := List.getElem?_eq_some_iff.mp hk
    have := List.pairwise_iff_getElem.mp h.so k (k + 1) h4 h2 (by omega)
    rw [h3, h5] at this
    dsimp only at this h1
    omega
theorem bf_end (hG : GOk m G) (hm : m ≤ 8) (hs : s < m) (h : Bf m G s L L.length) (v d : Nat) : (v, d) ∈ L ↔ (dst m G s v = d ∧ d < 99) := by
  have go : ∀ n v, lev G s n v → ∃ d, d ≤ n ∧ (v, d) ∈ L := by
    intro n
    induction n with
    | zero =>
      intro v hv
      have hv : v = s := hv
      rw [hv]
      exact ⟨0, Nat.le_refl _, h.st⟩
    | succ n ih =>
      intro v hv
      rcases hv with hv | ⟨u, hu, g⟩
      · obtain ⟨d, h1, h2⟩ := ih v hv
        exact ⟨d, by omega, h2⟩
      · obtain ⟨d, h1, h2⟩ := ih u hu
        by_cases z : v = u
        · rw [z]
          exact ⟨d, by omega, h2⟩
        · obtain ⟨j, hj⟩ := List.getElem?_of_mem h2
          obtain ⟨d', h3, h4⟩ := h.pr j _ (List.getElem?_eq_some_iff.mp hj).1 hj v z g
          dsimp only at h4
          exact ⟨d', by omega, h3⟩
  have fwd : ∀ v d, (v, d) ∈ L → dst m G s v = d ∧ d < 99 := by
    intro v d hv
    obtain ⟨h1, h2, h3⟩ := dst_le hG hs (h.lv _ hv).2
    obtain ⟨d2, h4, h5⟩ := go _ v h3
    have := fst_fun h.nd hv h5
    dsimp only at h1 h2 h3 h4
    omega
  refine ⟨fwd v d, fun ⟨h1, h2⟩ => ?_⟩
  obtain ⟨d2, h4, h5⟩ := go _ v (dst_lev hm (show dst m G s v < 99 by omega))
  have := fwd v d2 h5
  have : d2 = d := by omega
  rw [← this]
  exact h5
end
theorem lD_get {ds : List Doc} (h : Docs ds) : ∀ {L : List (Nat × Nat)}, (∀ e ∈ L, e.1 < ds.length) → (L.map (·.1)).Nodup → ∀ {v d : Nat}, (v, d) ∈ L → valD (lD ds L) (Sum.inl (idn ds v)) = some (.int d)
  | [], _, _, v, d, hv => by cases hv
  | e :: L, hl, hn, v, d, hv => by
    rw [List.map_cons, List.nodup_cons] at hn
    show valD ((Sum.inl (idn ds e.1), D.int (e.2 : Nat)) :: lD ds L) _ = _
    rw [valD_cons]
    rcases List.mem_cons.mp hv with z | z
    · rw [← z, if_pos rfl]
    · rw [if_neg]
      · exact lD_get h (fun e he => hl e (List.mem_cons_of_mem _ he)) hn.2 z
      · intro w
        have := docs_inj h (hl e (List.mem_cons_self ..)) (hl _ (List.mem_cons_of_mem _ z)) (Sum.inl.inj w)
        exact hn.1 (List.mem_map.mpr ⟨_, z, this.symm⟩)
theorem lD_none {ds : List Doc} (h : Docs ds) : ∀ {L : List (Nat × Nat)}, (∀ e ∈ L, e.1 < ds.length) → ∀ {v : Nat}, v < ds.length → v ∉ L.map (·.1) → valD (lD ds L) (Sum.inl (idn ds v)) = none
  | [], _, v, _, _ => valD_nil
  | e :: L, hl, v, hv, hn => by
    show valD ((Sum.inl (idn ds e.1), D.int (e.2 : Nat)) :: lD ds L) _ = _
    rw [valD_cons, if_neg]
    · exact lD_none h (fun e he => hl e (List.mem_cons_of_mem _ he)) hv fun z => hn (List.mem_cons_of_mem _ z)
    · intro w
      have := docs_inj h (hl e (List.mem_cons_self ..)) hv (Sum.inl.inj w)
      exact hn (by rw [← this]; exact List.mem_cons_self ..)
theorem lD_put {ds : List Doc} (h : Docs ds) {L : List (Nat × Nat)} (hl : ∀ e ∈ L, e.1 < ds.length) {v d : Nat} (hv : v < ds.length) (hn : v ∉ L.map (·.1)) : putD (lD ds L) (Sum.inl (idn ds v)) (.int (d : Nat)) = lD ds (L ++ [(v, d)]) := by
  rw [putD_new]
  · unfold lD
    rw [List.map_append]
    rfl
  · intro e he z
    obtain ⟨x, hx, rfl⟩ := List.mem_map.mp he
    have := docs_inj h (hl x hx) hv (Sum.inl.inj z)
    exact hn (by rw [← this]; exact List.mem_map.mpr ⟨x, hx, rfl⟩)
theorem nbD_get {ds : List Doc} (h : Docs ds) (G : Nat → Nat → Bool) {i : Nat} (hi : i < ds.length) : valD ((List.range ds.length).map fun i => ((Sum.inl (idn ds i) : L2.Key), D.lst (Ds ((nbr ds.length G i).map (idn ds))))) (Sum.inl (idn ds i)) = some (D.lst (Ds ((nbr ds.length G i).map (idn ds)))) :=
  valD_ixl h (fun i => D.lst (Ds ((nbr ds.length G i).map (idn ds)))) (fun k hk => List.mem_range.mp hk) (List.mem_range.mpr hi) hi
theorem pure_u_distances : ∀ as Q Qe, sp_u_distances as Q Qe → w_u_distances (ends0 as Q) (initA 7 as) := by
  rintro as Q Qe ⟨ds, G, s, rfl, hds, hG, hs, hq⟩
  have hd8 := hds.1
  have hnb := fun i hi => nbD_get hds G (i := i) hi
  unfold nbD at hq ⊢
  generalize ((List.range ds.length).map fun i => ((Sum.inl (idn ds i) : L2.Key), D.lst (Ds ((nbr ds.length G i).map (idn ds))))) = T at hnb hq ⊢
  conv => whnf
  refine ⟨(by first | omega | exact ⟨by omega, by omega⟩ | exact small (by simp only [List.length_cons, List.length_nil, List.length_append, List.length_map, ds_len, DS.rangeD_len]; try omega) | exact smaller (by simp only [List.length_cons, List.length_nil, List.length_append, List.length_map, ds_len, DS.rangeD_len]; omega) | exact cmul_r (by decide) (by decide) | exact cmul_l (by decide) (by decide) | exact ⟨by decide, by decide⟩ | exact cmul_l (by omega) (by omega) | exact cmul_r (by omega) (by omega) | (simp only [List.length_cons, List.length_nil, List.length_append, List.length_map, ds_len]; omega)), ?_⟩
  (try simp only [putBack, hold, resOf, initA, keepNo, wipeA, List.set_cons_zero, List.set_cons_succ, List.getElem?_cons_zero, List.getElem?_cons_succ, List.map_cons, List.map_nil, List.replicate_succ, List.replicate_zero, List.length_cons, List.length_nil, List.cons_append, List.nil_append, Nat.reduceSub, Nat.reduceAdd, Nat.zero_add, List.replicate])
  conv => whnf
  refine while_i (fun t a => ∃ (L : List (Nat × Nat)) (k : Nat) (x5 x6 : Option AV), a = [some ⟨.no, .dK T⟩, some ⟨.no, .int (idn ds s)⟩, some ⟨.own, .dK (lD ds L)⟩, some ⟨.own, .lst (Ds (L.map fun e => idn ds e.1))⟩, some ⟨.no, .int (k : Nat)⟩, x5, x6] ∧ Bf ds.length G s L k ∧ t = ds.length - k) ds.length ⟨[(s, 0)], 0, none, none, rfl, ?_, rfl⟩ ?_
  · refine ⟨Nat.zero_le _, by simp, List.mem_singleton.mpr rfl, ?_, ?_, by simp, ?_⟩
    · intro e he
      rw [List.mem_singleton.mp he]
      exact ⟨hs, rfl⟩
    · intro j e hj
      omega
    · intro e he x hx
      rw [List.mem_singleton.mp hx]
      exact Nat.zero_le _
  · rintro t a ⟨L, k, x5, x6, rfl, hB, rfl⟩
    have hl8 := bf_len hB
    conv => whnf
    refine br_i (fun h => ?_) (fun h => ?_)
    · have hkl : k < L.length := by
        unfold Ds at h
        rw [List.length_map, List.length_map] at h
        omega
      obtain ⟨u, d, hk⟩ : ∃ u d, L[k]? = some (u, d) := ⟨_, _, List.getElem?_eq_getElem hkl⟩
      have hu := hB.lv _ (List.mem_of_getElem? hk)
      have hix : atI (Ds (L.map fun e => idn ds e.1)) (k : Nat) = some (.int (idn ds u)) := by
        rw [atI_nat]
        unfold Ds
        rw [List.getElem?_map, List.getElem?_map, hk]
        rfl
      (try simp only [putBack, hold, resOf, initA, keepNo, wipeA, List.set_cons_zero, List.set_cons_succ, List.getElem?_cons_zero, List.getElem?_cons_succ, List.map_cons, List.map_nil, List.replicate_succ, List.replicate_zero, List.length_cons, List.length_nil, List.cons_append, List.nil_append, Nat.reduceSub, Nat.reduceAdd, Nat.zero_add, List.replicate])
      conv => whnf
      refine onO_of hix ?_
      (try simp only [putBack, hold, resOf, initA, keepNo, wipeA, List.set_cons_zero, List.set_cons_succ, List.getElem?_cons_zero, List.getElem?_cons_succ, List.map_cons, List.map_nil, List.replicate_succ, List.replicate_zero, List.length_cons, List.length_nil, List.cons_append, List.nil_append, Nat.reduceSub, Nat.reduceAdd, Nat.zero_add, List.replicate])
      conv => whnf
      refine onO_of (hnb u hu.1) ?_
      conv => whnf
      refine for_i (fun i a => ∃ (L : List (Nat × Nat)) (x6 : Option AV), a = [some ⟨.no, .dK T⟩, some ⟨.no, .int (idn ds s)⟩, some ⟨.own, .dK (lD ds L)⟩, some ⟨.own, .lst (Ds (L.map fun e => idn ds e.1))⟩, some ⟨.no, .int ((k : Nat) + 1)⟩, some ⟨.no, .int (idn ds u)⟩, x6] ∧ Bf ds.length G s L k ∧ L[k]? = some (u, d) ∧ ∀ v ∈ (nbr ds.length G u).take i, ∃ d', (v, d') ∈ L ∧ d' ≤ d + 1) ⟨L, _, rfl, hB, hk, by intro v hv; cases hv⟩ ?_ ?_
      · rintro i a dd hi ⟨L, x6, rfl, hB, hk, hpre⟩
        have hl8 := bf_len hB
        unfold Ds at hi
        rw [List.getElem?_map, List.getElem?_map, Option.map_eq_some_iff] at hi
        obtain ⟨_, hi, rfl⟩ := hi
        obtain ⟨v, hv, rfl⟩ := Option.map_eq_some_iff.mp hi
        have hvm := List.mem_of_getElem? hv
        unfold nbr at hvm
        rw [List.mem_filter, List.mem_range, Bool.and_eq_true] at hvm
        obtain ⟨hvl, hvu, hg⟩ := hvm
        have hll : ∀ e ∈ L, e.1 < ds.length := fun e he => (hB.lv e he).1
        by_cases hin : v ∈ L.map (·.1)
        · obtain ⟨⟨v', d'⟩, hL, hvv⟩ := List.mem_map.mp hin
          have hvv : v' = v := hvv
          subst hvv
          have hb := hB.bd _ hk _ hL
          dsimp only at hb
          have hval := lD_get hds hll hB.nd hL
          conv => whnf
          refine br_b (fun h => ?_) (fun h => ?_)
          · rw [hval] at h
            cases h
          · refine ⟨L, _, rfl, hB, hk, fun w hw => ?_⟩
            rw [List.take_add_one, hv] at hw
            rcases List.mem_append.mp hw with hw | hw
            · exact hpre w hw
            · rw [List.mem_singleton.mp hw]
              exact ⟨d', hL, hb⟩
        · have hval := lD_none hds hll hvl hin
          obtain ⟨hB2, hk2⟩ := bf_add hG hB hk hg hin
          have hl82 := bf_len hB2
          rw [List.length_append] at hl82
          have hlast : ∀ w ∈ (nbr ds.length G u).take (i + 1), ∃ d', (w, d') ∈ L ++ [(v, d + 1)] ∧ d' ≤ d + 1 := by
            intro w hw
            rw [List.take_add_one, hv] at hw
            rcases List.mem_append.mp hw with hw | hw
            · obtain ⟨d', h1, h2⟩ := hpre w hw
              exact ⟨d', List.mem_append.mpr (.inl h1), h2⟩
            · rw [List.mem_singleton.mp hw]
              exact ⟨d + 1, List.mem_append.mpr (.inr (List.mem_singleton.mpr rfl)), Nat.le_refl _⟩
          conv => whnf
          refine br_b (fun h => ?_) (fun h => ?_)
          · (try simp only [putBack, hold, resOf, initA, keepNo, wipeA, List.set_cons_zero, List.set_cons_succ, List.getElem?_cons_zero, List.getElem?_cons_succ, List.map_cons, List.map_nil, List.replicate_succ, List.replicate_zero, List.length_cons, List.length_nil, List.cons_append, List.nil_append, Nat.reduceSub, Nat.reduceAdd, Nat.zero_add, List.replicate])
            conv => whnf
            refine onO_of (lD_get hds hll hB.nd (List.mem_of_getElem? hk)) ?_
            conv => whnf
            refine ⟨smaller (by unfold lD; rw [List.length_map]; omega), ?_⟩
            rw [show ((d : Int) + 1) = ((d + 1 : Nat) : Int) from rfl, lD_put hds hll hvl hin]
            (try simp only [putBack, hold, resOf, initA, keepNo, wipeA, List.set_cons_zero, List.set_cons_succ, List.getElem?_cons_zero, List.getElem?_cons_succ, List.map_cons, List.map_nil, List.replicate_succ, List.replicate_zero, List.length_cons, List.length_nil, List.cons_append, List.nil_append, Nat.reduceSub, Nat.reduceAdd, Nat.zero_add, List.replicate])
            conv => whnf
            refine ⟨smaller (by unfold Ds; rw [List.length_map, List.length_map]; omega), ?_⟩
            refine ⟨L ++ [(v, d + 1)], some ⟨.no, .int (idn ds v)⟩, ?_, hB2, hk2, hlast⟩
            rw [show Ds (L.map fun e => idn ds e.1) ++ [D.int (idn ds v)] = Ds ((L ++ [(v, d + 1)]).map fun e => idn ds e.1) from by unfold Ds; rw [List.map_append, List.map_append]; rfl]
            rfl
          · rw [hval] at h
            cases h
      · rintro a ⟨L, x6, rfl, hB, hk, hpre⟩
        unfold Ds at hpre
        rw [List.length_map, List.length_map, List.take_length] at hpre
        exact ⟨ds.length - (k + 1), by omega, L, k + 1, _, _, rfl, bf_next hG hB hk hpre, rfl⟩
    · have hkl : k = L.length := by
        unfold Ds at h
        rw [List.length_map, List.length_map] at h
        have := hB.kl
        omega
      subst hkl
      (try simp only [putBack, hold, resOf, initA, keepNo, wipeA, List.set_cons_zero, List.set_cons_succ, List.getElem?_cons_zero, List.getElem?_cons_succ, List.map_cons, List.map_nil, List.replicate_succ, List.replicate_zero, List.length_cons, List.length_nil, List.cons_append, List.nil_append, Nat.reduceSub, Nat.reduceAdd, Nat.zero_add, List.replicate])
      conv => whnf
      exact hq L hB.nd fun v d => bf_end hG hd8 hs hB v d

/-! ### the chain -/
theorem clo_nbr {m : Nat} {G : Nat → Nat → Bool} {κ v : Nat} (hG : GOk m G) (hm : m ≤ 8) (hs : κ < m) (h : dst m G κ v < 99) : (nbr m G v).filter (fun j => decide (dst m G κ j < dst m G κ v)) = clo m G κ v := by
  unfold nbr clo
  rw [List.filter_filter]
  refine List.filter_congr fun j hj => ?_
  cases hg : G v j with
  | false => simp
  | true =>
    have h1 := dst_step hG hm hs (u := v) (v := j) h hg
    have h2 := dst_step hG hm hs (u := j) (v := v) (by have := (dst_small hG hm hs h).1; omega) (by rw [hG.2]; exact hg)
    rw [Bool.and_true, Bool.true_and]
    by_cases z : j = v
    · subst z
      simp
    · have : (decide (j ≠ v)) = true := decide_eq_true z
      rw [this, Bool.and_true]
      refine decide_eq_decide.mpr ?_
      omega
theorem last_atD (xs : List D) (x : D) : atI (xs ++ [x]) (-1) = some x := by
  unfold L2.atI ixN
  rw [List.length_append, List.length_singleton, if_neg (by decide), if_pos (by omega)]
  show (xs ++ [x])[((-1 : Int) + ((xs.length + 1 : Nat) : Int)).toNat]? = some x
  rw [show ((-1 : Int) + ((xs.length + 1 : Nat) : Int)).toNat = xs.length by omega, List.getElem?_append_right (Nat.le_refl _), Nat.sub_self]
  rfl
theorem chn_succ (m : Nat) (G : Nat → Nat → Bool) (κ st k : Nat) : chn m G κ st (k + 1) = chn m G κ st k ++ [nodeAt m G κ st (k + 1)] := by
  unfold chn
  rw [List.range_succ, List.map_append]
  rfl
theorem chn_last (m : Nat) (G : Nat → Nat → Bool) (κ st k : Nat) : ∃ xs, chn m G κ st k = xs ++ [nodeAt m G κ st k] := by
  unfold chn
  rw [List.range_succ, List.map_append]
  exact ⟨_, rfl⟩
theorem chn_len (m : Nat) (G : Nat → Nat → Bool) (κ st k : Nat) : (chn m G κ st k).length = k + 1 := by
  unfold chn
  rw [List.length_map, List.length_range]
theorem Gd_ok {n : Nat} {p q : Int} {ds : List Doc} : GOk ds.length (Gd n p q ds) := by
  unfold Gd
  refine ⟨fun u v h => ?_, fun u v => ?_⟩
  · rw [Bool.and_eq_true, Bool.and_eq_true] at h
    exact ⟨of_decide_eq_true h.1, of_decide_eq_true h.2.1⟩
  · dsimp only
    rw [alk_symm n p q ds u v, ← Bool.and_assoc, ← Bool.and_assoc, Bool.and_comm (decide (u < ds.length))]
theorem pure_told_chain : ∀ as Q Qe, sp_told_chain as Q Qe → w_told_chain (ends0 as Q) (initA 13 as) := by
  rintro as Q Qe ⟨ds, n, p, q, st, rfl, hds, hn, hn2, p1, pq, q1, hst, hq⟩
  have hd8 := hds.1
  have hG := Gd_ok (n := n) (p := p) (q := q) (ds := ds)
  conv => whnf
  refine callS_i ⟨_, _, _, _, rfl, hds, hn, hn2, p1, pq, q1, ?_⟩
  (try simp only [putBack, hold, resOf, initA, keepNo, wipeA, List.set_cons_zero, List.set_cons_succ, List.getElem?_cons_zero, List.getElem?_cons_succ, List.map_cons, List.map_nil, List.replicate_succ, List.replicate_zero, List.length_cons, List.length_nil, List.cons_append, List.nil_append, Nat.reduceSub, Nat.reduceAdd, Nat.zero_add, List.replicate])
  unfold tch at hq
  generalize hGG : Gd n p q ds = G at *
  have hnb := fun i hi => nbD_get hds G (i := i) hi
  (try simp only [putBack, hold, resOf, initA, keepNo, wipeA, List.set_cons_zero, List.set_cons_succ, List.getElem?_cons_zero, List.getElem?_cons_succ, List.map_cons, List.map_nil, List.replicate_succ, List.replicate_zero, List.length_cons, List.length_nil, List.cons_append, List.nil_append, Nat.reduceSub, Nat.reduceAdd, Nat.zero_add, List.replicate])
  conv => whnf
  refine callS_i ⟨ds, G, st, rfl, hds, hG, hst, ?_⟩
  (try simp only [putBack, hold, resOf, initA, keepNo, wipeA, List.set_cons_zero, List.set_cons_succ, List.getElem?_cons_zero, List.getElem?_cons_succ, List.map_cons, List.map_nil, List.replicate_succ, List.replicate_zero, List.length_cons, List.length_nil, List.cons_append, List.nil_append, Nat.reduceSub, Nat.reduceAdd, Nat.zero_add, List.replicate])
  intro L hnd hL
  have hLm : ∀ e ∈ L, e.1 < ds.length := fun e he => (dst_small hG hd8 hst (by have := (hL e.1 e.2).mp he; omega)).2
  have hLlen : L.length ≤ 8 := by
    have := nodup_lt ds.length (L.map (·.1)) hnd fun x hx => by
      obtain ⟨e, he, rfl⟩ := List.mem_map.mp hx
      exact hLm e he
    rw [List.length_map] at this
    omega
  (try simp only [putBack, hold, resOf, initA, keepNo, wipeA, List.set_cons_zero, List.set_cons_succ, List.getElem?_cons_zero, List.getElem?_cons_succ, List.map_cons, List.map_nil, List.replicate_succ, List.replicate_zero, List.length_cons, List.length_nil, List.cons_append, List.nil_append, Nat.reduceSub, Nat.reduceAdd, Nat.zero_add, List.replicate])
  have hkeys : (lD ds L).map (fun e => kD e.1) = Ds (L.map fun e => idn ds e.1) := by
    unfold lD Ds
    rw [List.map_map, List.map_map]
    rfl
  conv => whnf
  rw [hkeys]
  (try simp only [putBack, hold, resOf, initA, keepNo, wipeA, List.set_cons_zero, List.set_cons_succ, List.getElem?_cons_zero, List.getElem?_cons_succ, List.map_cons, List.map_nil, List.replicate_succ, List.replicate_zero, List.length_cons, List.length_nil, List.cons_append, List.nil_append, Nat.reduceSub, Nat.reduceAdd, Nat.zero_add, List.replicate])
  refine lc_i (fun i acc a => ∃ x12 : Option AV, acc = (Ds (L.map fun e => idn ds e.1)).take i ∧ a = [some ⟨.no, .lst (ds.map docD)⟩, some ⟨.no, .int n⟩, some ⟨.no, .int p⟩, some ⟨.no, .int q⟩, some ⟨.no, .int (idn ds st)⟩, some ⟨.no, nbD ds G⟩, some ⟨.no, .lK (lD ds L)⟩, none, none, none, none, none, x12]) ⟨_, rfl, rfl⟩ ?_ ?_
  · rintro i acc a d hi ⟨x12, rfl, rfl⟩
    have hi2 := hi
    unfold Ds at hi
    rw [List.getElem?_map, List.getElem?_map, Option.map_eq_some_iff] at hi
    obtain ⟨_, hi, rfl⟩ := hi
    conv => whnf
    refine ⟨smaller (by unfold Ds; rw [List.length_take, List.length_map, List.length_map]; omega), _, ?_, rfl⟩
    rw [List.take_add_one, hi2]
    rfl
  rintro acc a ⟨x12, rfl, rfl⟩
  rw [List.take_length]
  (try simp only [putBack, hold, resOf, initA, keepNo, wipeA, List.set_cons_zero, List.set_cons_succ, List.getElem?_cons_zero, List.getElem?_cons_succ, List.map_cons, List.map_nil, List.replicate_succ, List.replicate_zero, List.length_cons, List.length_nil, List.cons_append, List.nil_append, Nat.reduceSub, Nat.reduceAdd, Nat.zero_add, List.replicate])
  obtain ⟨_, _, hkl, hk99, hkmin, hkd⟩ := kep_ok hG hd8 hst
  have hkL : (kep ds.length G st, dst ds.length G st (kep ds.length G st)) ∈ L := (hL _ _).mpr ⟨rfl, hk99⟩
  generalize hκ : kep ds.length G st = κ at *
  conv => whnf
  refine onO_of (intsOf_map (L.map fun e => idn ds e.1)) ?_
  refine ⟨by rw [List.length_map]; exact List.length_pos_of_mem hkL, fun mm hmm hmin => ?_⟩
  have hmm : mm = idn ds κ := by
    obtain ⟨e, he, rfl⟩ := List.mem_map.mp hmm
    have h1 := hmin _ (List.mem_map.mpr ⟨_, hkL, rfl⟩)
    have h2 := (hL e.1 e.2).mp he
    have h3 := hkmin e.1 (by omega)
    rcases Nat.lt_or_ge κ e.1 with z | z
    · have := docs_lt hds z (hLm e he)
      unfold idn at h1
      dsimp only at h1
      omega
    · rw [show e.1 = κ by omega]
  subst hmm
  (try simp only [putBack, hold, resOf, initA, keepNo, wipeA, List.set_cons_zero, List.set_cons_succ, List.getElem?_cons_zero, List.getElem?_cons_succ, List.map_cons, List.map_nil, List.replicate_succ, List.replicate_zero, List.length_cons, List.length_nil, List.cons_append, List.nil_append, Nat.reduceSub, Nat.reduceAdd, Nat.zero_add, List.replicate])
  conv => whnf
  refine callS_i ⟨ds, G, κ, rfl, hds, hG, hkl, ?_⟩
  (try simp only [putBack, hold, resOf, initA, keepNo, wipeA, List.set_cons_zero, List.set_cons_succ, List.getElem?_cons_zero, List.getElem?_cons_succ, List.map_cons, List.map_nil, List.replicate_succ, List.replicate_zero, List.length_cons, List.length_nil, List.cons_append, List.nil_append, Nat.reduceSub, Nat.reduceAdd, Nat.zero_add, List.replicate])
  intro L2 hnd2 hL2
  have hL2m : ∀ e ∈ L2, e.1 < ds.length := fun e he => (dst_small hG hd8 hkl (by have := (hL2 e.1 e.2).mp he; omega)).2
  have hget2 : ∀ v, dst ds.length G κ v < 99 → valD (lD ds L2) (Sum.inl (idn ds v)) = some (.int (dst ds.length G κ v : Nat)) := fun v hv => lD_get hds hL2m hnd2 ((hL2 _ _).mpr ⟨rfl, hv⟩)
  clear hL hkeys hmin hkL hLm hLlen
  generalize lD ds L2 = T2 at hget2 ⊢
  have hnl : ∀ v, (nbr ds.length G v).length ≤ 8 := by
    intro v
    unfold nbr
    have := List.length_filter_le (fun j => decide (j ≠ v) && G v j) (List.range ds.length)
    rw [List.length_range] at this
    omega
  (try simp only [putBack, hold, resOf, initA, keepNo, wipeA, List.set_cons_zero, List.set_cons_succ, List.getElem?_cons_zero, List.getElem?_cons_succ, List.map_cons, List.map_nil, List.replicate_succ, List.replicate_zero, List.length_cons, List.length_nil, List.cons_append, List.nil_append, Nat.reduceSub, Nat.reduceAdd, Nat.zero_add, List.replicate])
  have hnok := node_ok hG hd8 hkl hst hkd
  have hdm := dst_small hG hd8 hkl hkd
  conv => whnf
  refine ⟨(by first | omega | exact ⟨by omega, by omega⟩ | exact small (by simp only [List.length_cons, List.length_nil, List.length_append, List.length_map, ds_len, DS.rangeD_len]; try omega) | exact smaller (by simp only [List.length_cons, List.length_nil, List.length_append, List.length_map, ds_len, DS.rangeD_len]; omega) | exact cmul_r (by decide) (by decide) | exact cmul_l (by decide) (by decide) | exact ⟨by decide, by decide⟩ | exact cmul_l (by omega) (by omega) | exact cmul_r (by omega) (by omega) | (simp only [List.length_cons, List.length_nil, List.length_append, List.length_map, ds_len]; omega)), ?_⟩
  (try simp only [putBack, hold, resOf, initA, keepNo, wipeA, List.set_cons_zero, List.set_cons_succ, List.getElem?_cons_zero, List.getElem?_cons_succ, List.map_cons, List.map_nil, List.replicate_succ, List.replicate_zero, List.length_cons, List.length_nil, List.cons_append, List.nil_append, Nat.reduceSub, Nat.reduceAdd, Nat.zero_add, List.replicate])
  conv => whnf
  refine while_i (fun t a => ∃ (k : Nat) (x10 x11 : Option AV), a = [some ⟨.no, .lst (ds.map docD)⟩, some ⟨.no, .int n⟩, some ⟨.no, .int p⟩, some ⟨.no, .int q⟩, some ⟨.no, .int (idn ds st)⟩, some ⟨.no, nbD ds G⟩, some ⟨.no, .lK (lD ds L)⟩, some ⟨.no, .int (idn ds κ)⟩, some ⟨.no, .dK T2⟩, some ⟨.own, .lst (Ds ((chn ds.length G κ st k).map (idn ds)))⟩, x10, x11, none] ∧ k ≤ dst ds.length G κ st ∧ t = dst ds.length G κ st - k) (dst ds.length G κ st) ⟨0, none, none, rfl, Nat.zero_le _, rfl⟩ ?_
  rintro t a ⟨k, x10, x11, rfl, hk, rfl⟩
  obtain ⟨xs, hxs⟩ := chn_last ds.length G κ st k
  have hlast : atI (Ds ((chn ds.length G κ st k).map (idn ds))) (-1) = some (.int (idn ds (nodeAt ds.length G κ st k))) := by
    rw [hxs, List.map_append]
    unfold Ds
    rw [List.map_append]
    exact last_atD _ _
  obtain ⟨hnl2, hnd3⟩ := hnok k hk
  generalize hv : nodeAt ds.length G κ st k = v at hlast hnl2 hnd3
  conv => whnf
  refine onO_of hlast ?_
  conv => whnf
  refine br_b (fun h => ?_) (fun h => ?_)
  · have h : scEq (.int (idn ds v)) (.int (idn ds κ)) = false := by
      cases z : scEq (.int (idn ds v)) (.int (idn ds κ)) with
      | false => rfl
      | true => exact absurd (z ▸ h : (!true) = true) (by decide)
    have hne : v ≠ κ := fun z => by
      rw [z] at h
      exact absurd h (by simp [scEq])
    have hpos : 0 < dst ds.length G κ v := by
      rcases Nat.eq_zero_or_pos (dst ds.length G κ v) with z | z
      · exact absurd (dst_zero hd8 z) hne
      · exact z
    have hv99 : dst ds.length G κ v < 99 := by omega
    (try simp only [putBack, hold, resOf, initA, keepNo, wipeA, List.set_cons_zero, List.set_cons_succ, List.getElem?_cons_zero, List.getElem?_cons_succ, List.map_cons, List.map_nil, List.replicate_succ, List.replicate_zero, List.length_cons, List.length_nil, List.cons_append, List.nil_append, Nat.reduceSub, Nat.reduceAdd, Nat.zero_add, List.replicate])
    conv => whnf
    refine onO_of hlast ?_
    (try simp only [putBack, hold, resOf, initA, keepNo, wipeA, List.set_cons_zero, List.set_cons_succ, List.getElem?_cons_zero, List.getElem?_cons_succ, List.map_cons, List.map_nil, List.replicate_succ, List.replicate_zero, List.length_cons, List.length_nil, List.cons_append, List.nil_append, Nat.reduceSub, Nat.reduceAdd, Nat.zero_add, List.replicate])
    conv => whnf
    refine onO_of (hnb v hnl2) ?_
    conv => whnf
    refine lc_i (fun i acc a => ∃ x12 : Option AV, acc = Ds ((((nbr ds.length G v).take i).filter fun j => decide (dst ds.length G κ j < dst ds.length G κ v)).map (idn ds)) ∧ a = [some ⟨.no, .lst (ds.map docD)⟩, some ⟨.no, .int n⟩, some ⟨.no, .int p⟩, some ⟨.no, .int q⟩, some ⟨.no, .int (idn ds st)⟩, some ⟨.no, nbD ds G⟩, some ⟨.no, .lK (lD ds L)⟩, some ⟨.no, .int (idn ds κ)⟩, some ⟨.no, .dK T2⟩, some ⟨.own, .lst (Ds ((chn ds.length G κ st k).map (idn ds)))⟩, some ⟨.no, .int (idn ds v)⟩, x11, x12]) ⟨_, rfl, rfl⟩ ?_ ?_
    · rintro i acc a d hi ⟨x12, rfl, rfl⟩
      unfold Ds at hi
      rw [List.getElem?_map, List.getElem?_map, Option.map_eq_some_iff] at hi
      obtain ⟨_, hi, rfl⟩ := hi
      obtain ⟨j, hj, rfl⟩ := Option.map_eq_some_iff.mp hi
      have hjm := List.mem_of_getElem? hj
      unfold nbr at hjm
      rw [List.mem_filter, List.mem_range, Bool.and_eq_true] at hjm
      obtain ⟨hjl, hjv, hg⟩ := hjm
      have hstep := dst_step hG hd8 hkl hv99 hg
      have hvm := (dst_small hG hd8 hkl hv99).1
      have hnext := take_filter (fun j => decide (dst ds.length G κ j < dst ds.length G κ v)) hj
      have hfl : (((nbr ds.length G v).take i).filter fun j => decide (dst ds.length G κ j < dst ds.length G κ v)).length ≤ 8 := by
        have h1 := List.length_filter_le (fun j => decide (dst ds.length G κ j < dst ds.length G κ v)) ((nbr ds.length G v).take i)
        have h2 := hnl v
        rw [List.length_take] at h1
        omega
      conv => whnf
      refine onO_of (hget2 j (by omega)) ?_
      conv => whnf
      refine onO_of (hget2 v hv99) ?_
      conv => whnf
      refine br_i (fun h => ?_) (fun h => ?_)
      · conv => whnf
        refine ⟨smaller (by unfold Ds; rw [List.length_map, List.length_map]; omega), _, ?_, rfl⟩
        rw [hnext, if_pos (decide_eq_true (by omega)), List.map_append]
        unfold Ds
        rw [List.map_append]
        rfl
      · refine ⟨_, ?_, rfl⟩
        rw [hnext, if_neg (fun z => h (by have := of_decide_eq_true z; omega)), List.append_nil]
    · rintro acc a ⟨x12, rfl, rfl⟩
      have hcn := clo_nbr hG hd8 hkl hv99
      rw [show (Ds ((nbr ds.length G v).map (idn ds))).length = (nbr ds.length G v).length from by unfold Ds; rw [List.length_map, List.length_map], List.take_length, hcn]
      obtain ⟨u, r, hclo, hul, hug, hud⟩ := clo_some hG hd8 hkl hv99 hpos
      have hnode : nodeAt ds.length G κ st (k + 1) = u := by
        show (clo ds.length G κ (nodeAt ds.length G κ st k)).headD 0 = u
        rw [hv, hclo]
        rfl
      rw [hclo]
      (try simp only [putBack, hold, resOf, initA, keepNo, wipeA, List.set_cons_zero, List.set_cons_succ, List.getElem?_cons_zero, List.getElem?_cons_succ, List.map_cons, List.map_nil, List.replicate_succ, List.replicate_zero, List.length_cons, List.length_nil, List.cons_append, List.nil_append, Nat.reduceSub, Nat.reduceAdd, Nat.zero_add, List.replicate])
      conv => whnf
      refine onO_of (show atI (D.int (idn ds u) :: _) 0 = some (.int (idn ds u)) from atI_of (Int.le_refl _) rfl) ?_
      conv => whnf
      refine ⟨smaller (by unfold Ds; rw [List.length_map, List.length_map, chn_len]; omega), ?_⟩
      refine ⟨dst ds.length G κ st - (k + 1), by omega, k + 1, some ⟨.no, .int (idn ds v)⟩, some ⟨.own, .lst (Ds ((u :: r).map (idn ds)))⟩, ?_, by omega, rfl⟩
      rw [chn_succ, hnode, List.map_append]
      unfold Ds
      rw [List.map_append]
      rfl
  · have hvk : v = κ := by
      have h : scEq (.int (idn ds v)) (.int (idn ds κ)) = true := by
        cases z : scEq (.int (idn ds v)) (.int (idn ds κ)) with
        | true => rfl
        | false => exact absurd (z ▸ h : (!false) = false) (by decide)
      exact docs_inj hds hnl2 hkl (show idn ds v = idn ds κ by simpa [scEq] using h)
    have hz := dst_self hG hkl
    rw [hvk, hz] at hnd3
    have hkk : k = dst ds.length G κ st := by omega
    subst hkk
    (try simp only [putBack, hold, resOf, initA, keepNo, wipeA, List.set_cons_zero, List.set_cons_succ, List.getElem?_cons_zero, List.getElem?_cons_succ, List.map_cons, List.map_nil, List.replicate_succ, List.replicate_zero, List.length_cons, List.length_nil, List.cons_append, List.nil_append, Nat.reduceSub, Nat.reduceAdd, Nat.zero_add, List.replicate])
    conv => whnf
    exact hq

/-! ### the law's own walk -/
theorem Gd_in {n : Nat} {p q : Int} {ds : List Doc} {i j : Nat} (hi : i < ds.length) (hj : j < ds.length) : Gd n p q ds i j = alk n p q ds i j := by
  unfold Gd
  rw [decide_eq_true hi, decide_eq_true hj]
  rfl
def nrD (m : Nat) (G : Nat → Nat → Bool) (i : Nat) : D := .lst (Ds (((List.range m).filter (G i)).map fun j : Nat => (j : Int)))
theorem pure_Lnear : ∀ as Q Qe, sp_Lnear as Q Qe → w_Lnear (ends0 as Q) (initA 6 as) := by
  rintro as Q Qe ⟨ds, n, p, q, rfl, hds, hn, hn2, p1, pq, q1, hq⟩
  have hd8 := hds.1
  conv => whnf
  refine ⟨(by first | omega | exact ⟨by omega, by omega⟩ | exact small (by simp only [List.length_cons, List.length_nil, List.length_append, List.length_map, ds_len, DS.rangeD_len]; try omega) | exact smaller (by simp only [List.length_cons, List.length_nil, List.length_append, List.length_map, ds_len, DS.rangeD_len]; omega) | exact cmul_r (by decide) (by decide) | exact cmul_l (by decide) (by decide) | exact ⟨by decide, by decide⟩ | exact cmul_l (by omega) (by omega) | exact cmul_r (by omega) (by omega) | (simp only [List.length_cons, List.length_nil, List.length_append, List.length_map, ds_len]; omega)), ?_⟩
  (try simp only [putBack, hold, resOf, initA, keepNo, wipeA, List.set_cons_zero, List.set_cons_succ, List.getElem?_cons_zero, List.getElem?_cons_succ, List.map_cons, List.map_nil, List.replicate_succ, List.replicate_zero, List.length_cons, List.length_nil, List.cons_append, List.nil_append, Nat.reduceSub, Nat.reduceAdd, Nat.zero_add, List.replicate])
  conv => whnf
  refine for_i (fun i a => ∃ x4 : Option AV, a = [some ⟨.no, .lst (ds.map docD)⟩, some ⟨.no, .int n⟩, some ⟨.no, .tup [.int p, .int q]⟩, some ⟨.own, .lst ((List.range i).map (nrD ds.length (Gd n p q ds)))⟩, x4, none]) ⟨none, rfl⟩ ?_ ?_
  · rintro i a d hi ⟨x4, rfl⟩
    rw [List.getElem?_map, Option.map_eq_some_iff] at hi
    obtain ⟨dc, hdi, rfl⟩ := hi
    have hil := (List.getElem?_eq_some_iff.mp hdi).1
    have hdc : docAt ds i = dc := by
      have := docAt_get hil
      rw [hdi] at this
      exact (Option.some.inj this).symm
    subst hdc
    obtain ⟨hP1, hne1⟩ := hds.2.2 _ (docAt_mem hil)
    conv => whnf
    refine ⟨(by first | omega | exact ⟨by omega, by omega⟩ | exact small (by simp only [List.length_cons, List.length_nil, List.length_append, List.length_map, ds_len, DS.rangeD_len]; try omega) | exact smaller (by simp only [List.length_cons, List.length_nil, List.length_append, List.length_map, ds_len, DS.rangeD_len]; omega) | exact cmul_r (by decide) (by decide) | exact cmul_l (by decide) (by decide) | exact ⟨by decide, by decide⟩ | exact cmul_l (by omega) (by omega) | exact cmul_r (by omega) (by omega) | (simp only [List.length_cons, List.length_nil, List.length_append, List.length_map, ds_len]; omega)), ?_⟩
    (try simp only [putBack, hold, resOf, initA, keepNo, wipeA, List.set_cons_zero, List.set_cons_succ, List.getElem?_cons_zero, List.getElem?_cons_succ, List.map_cons, List.map_nil, List.replicate_succ, List.replicate_zero, List.length_cons, List.length_nil, List.cons_append, List.nil_append, Nat.reduceSub, Nat.reduceAdd, Nat.zero_add, List.replicate])
    rw [List.length_map, show (((ds.length : Nat) : Int)).toNat = ds.length by omega]
    conv => whnf
    refine lc_rv (fun j acc a1 a => ∃ x5 : Option AV, a = a1.set 5 x5 ∧ acc = Ds (((List.range j).filter (Gd n p q ds i)).map fun j : Nat => (j : Int))) ⟨none, rfl, rfl⟩ ?_ ?_
    · rintro j acc a hj ⟨x5, rfl, rfl⟩
      have et : (0 + (j : Int)) = (j : Int) := by omega
      have hP2 := (hds.2.2 _ (docAt_mem hj)).1
      (try simp only [putBack, hold, resOf, initA, keepNo, wipeA, List.set_cons_zero, List.set_cons_succ, List.getElem?_cons_zero, List.getElem?_cons_succ, List.map_cons, List.map_nil, List.replicate_succ, List.replicate_zero, List.length_cons, List.length_nil, List.cons_append, List.nil_append, Nat.reduceSub, Nat.reduceAdd, Nat.zero_add, List.replicate])
      rw [et]
      conv => whnf
      refine onO_of (show atI (ds.map docD) (j : Nat) = some (docD (docAt ds j)) from atI_of (by omega) (by rw [List.getElem?_map]; show (ds[j]?).map docD = _; rw [docAt_get hj]; rfl)) ?_
      conv => whnf
      refine callS_i ⟨_, _, _, _, _, rfl, hP1, hP2, hn, hn2, p1, pq, q1, ?_⟩
      (try simp only [putBack, hold, resOf, initA, keepNo, wipeA, List.set_cons_zero, List.set_cons_succ, List.getElem?_cons_zero, List.getElem?_cons_succ, List.map_cons, List.map_nil, List.replicate_succ, List.replicate_zero, List.length_cons, List.length_nil, List.cons_append, List.nil_append, Nat.reduceSub, Nat.reduceAdd, Nat.zero_add, List.replicate])
      have eA : Gd n p q ds i j = decide (p * tog n (docAt ds i).2 (docAt ds j).2 ≤ q * com n (docAt ds i).2 (docAt ds j).2) := by
        rw [Gd_in hil hj]
        rfl
      have hfl : ((List.range j).filter (Gd n p q ds i)).length ≤ 8 := by
        have h1 := List.length_filter_le (Gd n p q ds i) (List.range j)
        rw [List.length_range] at h1
        omega
      have hsn : (List.range (j + 1)).filter (Gd n p q ds i) = (List.range j).filter (Gd n p q ds i) ++ if Gd n p q ds i j = true then [j] else [] := by
        rw [List.range_succ, List.filter_append]
        congr 1
        rw [List.filter_cons]
        rfl
      conv => whnf
      refine br_b (fun h => ?_) (fun h => ?_)
      · have h : Gd n p q ds i j = true := by rw [eA]; exact h
        conv => whnf
        refine ⟨smaller (by unfold Ds; rw [List.length_map, List.length_map]; omega), _, rfl, ?_⟩
        rw [hsn, if_pos h, List.map_append]
        unfold Ds
        rw [List.map_append]
        rfl
      · have h : Gd n p q ds i j = false := by rw [eA]; exact h
        refine ⟨_, rfl, ?_⟩
        rw [hsn, if_neg (by rw [h]; exact Bool.false_ne_true), List.append_nil]
    · rintro acc a ⟨x5, rfl, rfl⟩
      (try simp only [putBack, hold, resOf, initA, keepNo, wipeA, List.set_cons_zero, List.set_cons_succ, List.getElem?_cons_zero, List.getElem?_cons_succ, List.map_cons, List.map_nil, List.replicate_succ, List.replicate_zero, List.length_cons, List.length_nil, List.cons_append, List.nil_append, Nat.reduceSub, Nat.reduceAdd, Nat.zero_add, List.replicate])
      conv => whnf
      refine ⟨smaller (by rw [List.length_map, List.length_range]; omega), some ⟨.no, docD (docAt ds i)⟩, ?_⟩
      rw [List.range_succ, List.map_append]
      rfl
  · rintro a ⟨x4, rfl⟩
    rw [List.length_map]
    conv => whnf
    exact hq
def rT (m : Nat) (R : Nat → Nat) : List D := (List.range m).map fun k => D.int (R k : Nat)
theorem rT_len (m : Nat) (R : Nat → Nat) : (rT m R).length = m := by unfold rT; rw [List.length_map, List.length_range]
theorem rT_at {m : Nat} (R : Nat → Nat) {k : Nat} (hk : k < m) : atI (rT m R) (k : Nat) = some (.int (R k : Nat)) := by
  refine atI_of (by omega) ?_
  unfold rT
  rw [List.getElem?_map, show ((k : Nat) : Int).toNat = k from rfl, List.getElem?_range hk]
  rfl
theorem rT_set {m : Nat} (R : Nat → Nat) (k v : Nat) : (rT m R).set k (.int (v : Nat)) = rT m fun i => if i = k then v else R i := by
  unfold rT
  refine List.ext_getElem? fun i => ?_
  rw [List.getElem?_map]
  by_cases h : i < m
  · rw [List.getElem?_range h]
    by_cases e : k = i
    · subst e
      rw [List.getElem?_set_self (by rw [List.length_map, List.length_range]; exact h)]
      show _ = some (D.int ((if k = k then v else R k : Nat)))
      rw [if_pos rfl]
    · rw [List.getElem?_set_ne e, List.getElem?_map, List.getElem?_range h]
      show some (D.int (R i : Nat)) = some (D.int ((if i = k then v else R i : Nat)))
      rw [if_neg (fun z => e z.symm)]
  · rw [List.getElem?_eq_none (by rw [List.length_set, List.length_map, List.length_range]; omega), List.getElem?_eq_none (by rw [List.length_range]; omega)]
    rfl
theorem rT_congr {m : Nat} {R S : Nat → Nat} (h : ∀ k, k < m → R k = S k) : rT m R = rT m S := by
  unfold rT
  refine List.map_congr_left fun k hk => ?_
  rw [h k (List.mem_range.mp hk)]
/-- what a table of distances may say: nothing that is not so, and all up to T -/
structure Rl (m : Nat) (G : Nat → Nat → Bool) (s : Nat) (R : Nat → Nat) : Prop where
  le : ∀ k, k < m → R k ≤ 99
  ok : ∀ k, k < m → R k < 99 → lev G s (R k) k
theorem rl_step {m : Nat} {G : Nat → Nat → Bool} {s : Nat} {R : Nat → Nat} (hG : GOk m G) (h : Rl m G s R) {k j : Nat} (hk : k < m) (hj : j < m) (g : G k j = true) : Rl m G s fun i => if i = k then min (R k) (R j + 1) else R i := by
  refine ⟨fun i hi => ?_, fun i hi hlt => ?_⟩
  · have := h.le k hk
    have := h.le i hi
    try dsimp only
    split
    · omega
    · assumption
  · try dsimp only at hlt ⊢
    by_cases e : i = k
    · subst e
      rw [if_pos rfl] at hlt ⊢
      rcases Nat.le_total (R i) (R j + 1) with z | z
      · rw [Nat.min_eq_left z] at hlt ⊢
        exact h.ok i hi hlt
      · rw [Nat.min_eq_right z] at hlt ⊢
        exact .inr ⟨j, h.ok j hj (by omega), by rw [hG.2]; exact g⟩
    · rw [if_neg e] at hlt ⊢
      exact h.ok i hi hlt
theorem rl_end {m : Nat} {G : Nat → Nat → Bool} {s : Nat} {R : Nat → Nat} (hG : GOk m G) (hm : m ≤ 8) (hs : s < m) (h : Rl m G s R) (hc : ∀ t, t ≤ m → ∀ k, k < m → lev G s t k → R k ≤ t) {k : Nat} (hk : k < m) : R k = dst m G s k := by
  have hd : dst m G s k < 99 ∨ dst m G s k = 99 := by
    unfold dst
    rcases dstA_ok (fun n => lev G s n k) (m + 1) 0 with ⟨h1, _⟩ | ⟨_, h2, _, _⟩
    · exact .inr h1
    · omega
  have hle := h.le k hk
  rcases hd with hd | hd
  · have h1 := dst_lev hm hd
    have h2 := hc _ (dst_small hG hm hs hd).1 k hk h1
    have h3 := (dst_le hG hs (h.ok k hk (by omega))).1
    omega
  · rcases Nat.lt_or_ge (R k) 99 with z | z
    · have h3 := (dst_le hG hs (h.ok k hk z)).1
      omega
    · omega
theorem pure_Ldistances : ∀ as Q Qe, sp_Ldistances as Q Qe → w_Ldistances (ends0 as Q) (initA 6 as) := by
  rintro as Q Qe ⟨m, G, s, rfl, hm8, hG, hs, hq⟩
  have hnl : (nearD m G).length = m := by unfold nearD; rw [List.length_map, List.length_range]
  have hget : ∀ k, k < m → atI (nearD m G) (k : Nat) = some (.lst (Ds (((List.range m).filter (G k)).map fun j : Nat => (j : Int)))) := by
    intro k hk
    refine atI_of (by omega) ?_
    unfold nearD
    rw [List.getElem?_map, show ((k : Nat) : Int).toNat = k from rfl, List.getElem?_range hk]
    rfl
  have hqe : D.lst (Ds ((List.range m).map fun k => (dst m G s k : Int))) = .lst (rT m (dst m G s)) := by
    unfold rT Ds
    rw [List.map_map]
    rfl
  rw [hqe] at hq
  generalize nearD m G = N at *
  conv => whnf
  refine ⟨(by first | omega | exact ⟨by omega, by omega⟩ | exact small (by simp only [List.length_cons, List.length_nil, List.length_append, List.length_map, ds_len, DS.rangeD_len]; try omega) | exact smaller (by simp only [List.length_cons, List.length_nil, List.length_append, List.length_map, ds_len, DS.rangeD_len]; omega) | exact cmul_r (by decide) (by decide) | exact cmul_l (by decide) (by decide) | exact ⟨by decide, by decide⟩ | exact cmul_l (by omega) (by omega) | exact cmul_r (by omega) (by omega) | (simp only [List.length_cons, List.length_nil, List.length_append, List.length_map, ds_len]; omega)), ?_⟩
  rw [hnl, show ((m : Nat) : Int).toNat = m by omega]
  conv => whnf
  refine lc_rv (fun j acc a1 a => ∃ x4 : Option AV, a = a1.set 4 x4 ∧ acc = rT j fun _ => 99) ⟨none, rfl, rfl⟩ ?_ ?_
  · rintro j acc a hj ⟨x4, rfl, rfl⟩
    conv => whnf
    refine ⟨smaller (by rw [rT_len]; omega), _, rfl, ?_⟩
    unfold rT
    rw [List.range_succ, List.map_append]
    rfl
  rintro acc a ⟨x4, rfl, rfl⟩
  (try simp only [putBack, hold, resOf, initA, keepNo, wipeA, List.set_cons_zero, List.set_cons_succ, List.getElem?_cons_zero, List.getElem?_cons_succ, List.map_cons, List.map_nil, List.replicate_succ, List.replicate_zero, List.length_cons, List.length_nil, List.cons_append, List.nil_append, Nat.reduceSub, Nat.reduceAdd, Nat.zero_add, List.replicate])
  conv => whnf
  refine onO_of (show ixN (rT m fun _ => 99).length (s : Int) = some s from ?_) ?_
  · rw [rT_len]
    unfold ixN
    rw [if_pos (by omega), if_pos (by omega)]
    rfl
  rw [show D.int 0 = D.int ((0 : Nat) : Int) from rfl, rT_set]
  (try simp only [putBack, hold, resOf, initA, keepNo, wipeA, List.set_cons_zero, List.set_cons_succ, List.getElem?_cons_zero, List.getElem?_cons_succ, List.map_cons, List.map_nil, List.replicate_succ, List.replicate_zero, List.length_cons, List.length_nil, List.cons_append, List.nil_append, Nat.reduceSub, Nat.reduceAdd, Nat.zero_add, List.replicate])
  conv => whnf
  refine ⟨(by first | omega | exact ⟨by omega, by omega⟩ | exact small (by simp only [List.length_cons, List.length_nil, List.length_append, List.length_map, ds_len, DS.rangeD_len]; try omega) | exact smaller (by simp only [List.length_cons, List.length_nil, List.length_append, List.length_map, ds_len, DS.rangeD_len]; omega) | exact cmul_r (by decide) (by decide) | exact cmul_l (by decide) (by decide) | exact ⟨by decide, by decide⟩ | exact cmul_l (by omega) (by omega) | exact cmul_r (by omega) (by omega) | (simp only [List.length_cons, List.length_nil, List.length_append, List.length_map, ds_len]; omega)), ?_⟩
  rw [hnl, show ((m : Nat) : Int).toNat = m by omega]
  conv => whnf
  refine for_r (fun T a => ∃ (R : Nat → Nat) (x3 x4 x5 : Option AV), a = [some ⟨.no, .lst N⟩, some ⟨.no, .int (s : Nat)⟩, some ⟨.own, .lst (rT m R)⟩, x3, x4, x5] ∧ Rl m G s R ∧ ∀ t, t ≤ T → ∀ k, k < m → lev G s t k → R k ≤ t) ⟨_, none, none, none, rfl, ?_, ?_⟩ ?_ ?_
  · refine ⟨fun k hk => by split <;> omega, fun k hk h => ?_⟩
    try dsimp only at h ⊢
    by_cases e : k = s
    · rw [if_pos e, e]
      rfl
    · rw [if_neg e] at h
      omega
  · intro t ht k hk h
    have : t = 0 := by omega
    subst this
    have h : k = s := h
    try dsimp only
    rw [if_pos h]
    exact Nat.le_refl _
  · rintro T a hT ⟨R0, x3, x4, x5, rfl, hR0, hC0⟩
    conv => whnf
    refine ⟨(by first | omega | exact ⟨by omega, by omega⟩ | exact small (by simp only [List.length_cons, List.length_nil, List.length_append, List.length_map, ds_len, DS.rangeD_len]; try omega) | exact smaller (by simp only [List.length_cons, List.length_nil, List.length_append, List.length_map, ds_len, DS.rangeD_len]; omega) | exact cmul_r (by decide) (by decide) | exact cmul_l (by decide) (by decide) | exact ⟨by decide, by decide⟩ | exact cmul_l (by omega) (by omega) | exact cmul_r (by omega) (by omega) | (simp only [List.length_cons, List.length_nil, List.length_append, List.length_map, ds_len]; omega)), ?_⟩
    rw [hnl, show ((m : Nat) : Int).toNat = m by omega]
    (try simp only [putBack, hold, resOf, initA, keepNo, wipeA, List.set_cons_zero, List.set_cons_succ, List.getElem?_cons_zero, List.getElem?_cons_succ, List.map_cons, List.map_nil, List.replicate_succ, List.replicate_zero, List.length_cons, List.length_nil, List.cons_append, List.nil_append, Nat.reduceSub, Nat.reduceAdd, Nat.zero_add, List.replicate])
    conv => whnf
    refine for_r (fun K a => ∃ (R : Nat → Nat) (x4 x5 : Option AV), a = [some ⟨.no, .lst N⟩, some ⟨.no, .int (s : Nat)⟩, some ⟨.own, .lst (rT m R)⟩, some ⟨.no, .int (0 + (T : Int))⟩, x4, x5] ∧ Rl m G s R ∧ (∀ i, i < m → R i ≤ R0 i) ∧ ∀ k, k < K → ∀ u, u < m → G k u = true → R k ≤ R0 u + 1) ⟨R0, _, _, rfl, hR0, fun i _ => Nat.le_refl _, by intro k hk; omega⟩ ?_ ?_
    · rintro K a hK ⟨R1, x4, x5, rfl, hR1, hM1, hD1⟩
      have et : (0 + (K : Int)) = (K : Int) := by omega
      (try simp only [putBack, hold, resOf, initA, keepNo, wipeA, List.set_cons_zero, List.set_cons_succ, List.getElem?_cons_zero, List.getElem?_cons_succ, List.map_cons, List.map_nil, List.replicate_succ, List.replicate_zero, List.length_cons, List.length_nil, List.cons_append, List.nil_append, Nat.reduceSub, Nat.reduceAdd, Nat.zero_add, List.replicate])
      rw [et]
      conv => whnf
      refine onO_of (hget K hK) ?_
      conv => whnf
      refine for_i (fun i a => ∃ (R : Nat → Nat) (x5 : Option AV), a = [some ⟨.no, .lst N⟩, some ⟨.no, .int (s : Nat)⟩, some ⟨.own, .lst (rT m R)⟩, some ⟨.no, .int (0 + (T : Int))⟩, some ⟨.no, .int (K : Nat)⟩, x5] ∧ Rl m G s R ∧ (∀ i, i < m → R i ≤ R1 i) ∧ (∀ k, k < K → R k = R1 k) ∧ ∀ u ∈ ((List.range m).filter (G K)).take i, R K ≤ R0 u + 1) ⟨R1, _, rfl, hR1, fun i _ => Nat.le_refl _, fun i _ => rfl, by intro k hk; cases hk⟩ ?_ ?_
      · rintro i a d hi ⟨R, x5, rfl, hR, hM, hS, hP⟩
        unfold Ds at hi
        rw [List.getElem?_map, List.getElem?_map, Option.map_eq_some_iff] at hi
        obtain ⟨_, hi, rfl⟩ := hi
        obtain ⟨j, hj, rfl⟩ := Option.map_eq_some_iff.mp hi
        have hjm := List.mem_of_getElem? hj
        rw [List.mem_filter, List.mem_range] at hjm
        obtain ⟨hjl, hg⟩ := hjm
        (try simp only [putBack, hold, resOf, initA, keepNo, wipeA, List.set_cons_zero, List.set_cons_succ, List.getElem?_cons_zero, List.getElem?_cons_succ, List.map_cons, List.map_nil, List.replicate_succ, List.replicate_zero, List.length_cons, List.length_nil, List.cons_append, List.nil_append, Nat.reduceSub, Nat.reduceAdd, Nat.zero_add, List.replicate])
        conv => whnf
        refine onO_of (rT_at R hK) ?_
        conv => whnf
        refine onO_of (rT_at R hjl) ?_
        (try simp only [putBack, hold, resOf, initA, keepNo, wipeA, List.set_cons_zero, List.set_cons_succ, List.getElem?_cons_zero, List.getElem?_cons_succ, List.map_cons, List.map_nil, List.replicate_succ, List.replicate_zero, List.length_cons, List.length_nil, List.cons_append, List.nil_append, Nat.reduceSub, Nat.reduceAdd, Nat.zero_add, List.replicate])
        conv => whnf
        refine onO_of (show ixN (rT m R).length (K : Int) = some K from ?_) ?_
        · rw [rT_len]
          unfold ixN
          rw [if_pos (by omega), if_pos (by omega)]
          rfl
        rw [show (if ((R j : Nat) : Int) + 1 < ((R K : Nat) : Int) then ((R j : Nat) : Int) + 1 else ((R K : Nat) : Int)) = ((min (R K) (R j + 1) : Nat) : Int) from by split <;> omega, rT_set]
        refine ⟨_, _, rfl, rl_step hG hR hK hjl hg, fun k hk => ?_, fun k hk => ?_, fun u hu => ?_⟩
        · have := hM k hk
          try dsimp only
          split
          · rename_i e
            subst e
            omega
          · exact this
        · try dsimp only
          rw [if_neg (by omega)]
          exact hS k hk
        · try dsimp only
          rw [if_pos rfl]
          rw [List.take_add_one, hj] at hu
          rcases List.mem_append.mp hu with hu | hu
          · have := hP u hu
            omega
          · rw [List.mem_singleton.mp hu]
            have := hM j hjl
            have := hM1 j hjl
            omega
      · rintro a ⟨R, x5, rfl, hR, hM, hS, hP⟩
        unfold Ds at hP
        rw [List.length_map, List.length_map, List.take_length] at hP
        refine ⟨R, _, _, rfl, hR, fun i hi => Nat.le_trans (hM i hi) (hM1 i hi), fun k hk u hu g => ?_⟩
        rcases Nat.lt_or_ge k K with z | z
        · rw [hS k z]
          exact hD1 k z u hu g
        · have : k = K := by omega
          subst this
          exact hP u (List.mem_filter.mpr ⟨List.mem_range.mpr hu, g⟩)
    · rintro a ⟨R1, x4, x5, rfl, hR1, hM1, hD1⟩
      refine ⟨R1, _, _, _, rfl, hR1, fun t ht k hk hl => ?_⟩
      rcases Nat.lt_or_ge T t with z | z
      · have : t = T + 1 := by omega
        subst this
        rcases hl with hl | ⟨u, hu, g⟩
        · have := hM1 k hk
          have := hC0 T (Nat.le_refl _) k hk hl
          omega
        · have hum := (hG.1 u k g).1
          have h1 := hC0 T (Nat.le_refl _) u hum hu
          have h2 := hD1 k hk u hum (by rw [hG.2]; exact g)
          omega
      · have := hM1 k hk
        have := hC0 t z k hk hl
        omega
  · rintro a ⟨R, x3, x4, x5, rfl, hR, hC⟩
    rw [rT_congr fun k hk => rl_end hG hm8 hs hR hC hk]
    conv => whnf
    exact hq

theorem pure_law : ∀ as Q Qe, sp_law as Q Qe → w_law (ends0 as Q) (initA 18 as) := by
  rintro as Q Qe ⟨ns, rfl, hl, hq⟩
  conv => whnf
  refine callS_i ⟨_, _, _, rfl, by omega, by omega, by omega, by omega, fun dg hdg => ?_⟩
  (try simp only [putBack, hold, resOf, initA, keepNo, wipeA, List.set_cons_zero, List.set_cons_succ, List.getElem?_cons_zero, List.getElem?_cons_succ, List.map_cons, List.map_nil, List.replicate_succ, List.replicate_zero, List.length_cons, List.length_nil, List.cons_append, List.nil_append, Nat.reduceSub, Nat.reduceAdd, Nat.zero_add, List.replicate])
  conv => whnf
  refine ⟨(by first | omega | exact ⟨by omega, by omega⟩ | exact small (by simp only [List.length_cons, List.length_nil, List.length_append, List.length_map, ds_len, DS.rangeD_len]; try omega) | exact smaller (by simp only [List.length_cons, List.length_nil, List.length_append, List.length_map, ds_len, DS.rangeD_len]; omega) | exact cmul_r (by decide) (by decide) | exact cmul_l (by decide) (by decide) | exact ⟨by decide, by decide⟩ | exact cmul_l (by omega) (by omega) | exact cmul_r (by omega) (by omega) | (simp only [List.length_cons, List.length_nil, List.length_append, List.length_map, ds_len]; omega)), ?_⟩
  conv => whnf
  refine callS_i ⟨_, rfl, ⟨dg, 0, rfl⟩, fun st c hst hb => ?_⟩
  (try simp only [putBack, hold, resOf, initA, keepNo, wipeA, List.set_cons_zero, List.set_cons_succ, List.getElem?_cons_zero, List.getElem?_cons_succ, List.map_cons, List.map_nil, List.replicate_succ, List.replicate_zero, List.length_cons, List.length_nil, List.cons_append, List.nil_append, Nat.reduceSub, Nat.reduceAdd, Nat.zero_add, List.replicate])
  conv => whnf
  refine callS_i ⟨_, _, rfl, hb, hst, fun ds c hds hd7 hb => ?_⟩
  (try simp only [putBack, hold, resOf, initA, keepNo, wipeA, List.set_cons_zero, List.set_cons_succ, List.getElem?_cons_zero, List.getElem?_cons_succ, List.map_cons, List.map_nil, List.replicate_succ, List.replicate_zero, List.length_cons, List.length_nil, List.cons_append, List.nil_append, Nat.reduceSub, Nat.reduceAdd, Nat.zero_add, List.replicate])
  conv => whnf
  refine callS_i ⟨_, rfl, hb, fun n c hn hn2 hb => ?_⟩
  (try simp only [putBack, hold, resOf, initA, keepNo, wipeA, List.set_cons_zero, List.set_cons_succ, List.getElem?_cons_zero, List.getElem?_cons_succ, List.map_cons, List.map_nil, List.replicate_succ, List.replicate_zero, List.length_cons, List.length_nil, List.cons_append, List.nil_append, Nat.reduceSub, Nat.reduceAdd, Nat.zero_add, List.replicate])
  conv => whnf
  refine callS_i ⟨_, rfl, hb, fun p q c p1 pq q1 hb => ?_⟩
  (try simp only [putBack, hold, resOf, initA, keepNo, wipeA, List.set_cons_zero, List.set_cons_succ, List.getElem?_cons_zero, List.getElem?_cons_succ, List.map_cons, List.map_nil, List.replicate_succ, List.replicate_zero, List.length_cons, List.length_nil, List.cons_append, List.nil_append, Nat.reduceSub, Nat.reduceAdd, Nat.zero_add, List.replicate])
  conv => whnf
  refine callS_i ⟨_, rfl, hds, ?_⟩
  (try simp only [putBack, hold, resOf, initA, keepNo, wipeA, List.set_cons_zero, List.set_cons_succ, List.getElem?_cons_zero, List.getElem?_cons_succ, List.map_cons, List.map_nil, List.replicate_succ, List.replicate_zero, List.length_cons, List.length_nil, List.cons_append, List.nil_append, Nat.reduceSub, Nat.reduceAdd, Nat.zero_add, List.replicate])
  have hd8 := hds.1
  have hdl : (ds.map docD).length = ds.length := List.length_map ..
  conv => whnf
  skip
  rw [hdl]
  conv => whnf
  refine br_i (fun h => ?_) (fun h => ?_)
  · conv => whnf
    exact hq _
  have hpos : 0 < ds.length := by omega
  (try simp only [putBack, hold, resOf, initA, keepNo, wipeA, List.set_cons_zero, List.set_cons_succ, List.getElem?_cons_zero, List.getElem?_cons_succ, List.map_cons, List.map_nil, List.replicate_succ, List.replicate_zero, List.length_cons, List.length_nil, List.cons_append, List.nil_append, Nat.reduceSub, Nat.reduceAdd, Nat.zero_add, List.replicate])
  conv => whnf
  refine callS_i ⟨_, _, _, _, rfl, hds, hn, hn2, p1, pq, q1, ?_⟩
  (try simp only [putBack, hold, resOf, initA, keepNo, wipeA, List.set_cons_zero, List.set_cons_succ, List.getElem?_cons_zero, List.getElem?_cons_succ, List.map_cons, List.map_nil, List.replicate_succ, List.replicate_zero, List.length_cons, List.length_nil, List.cons_append, List.nil_append, Nat.reduceSub, Nat.reduceAdd, Nat.zero_add, List.replicate])
  have hG := Gd_ok (n := n) (p := p) (q := q) (ds := ds)
  have htold : ∀ (st : Nat) (Q : AV → List AV → Prop) Qe, st < ds.length → Q ⟨.own, .lst (Ds ((tch ds.length (Gd n p q ds) st).map (idn ds)))⟩ [⟨.no, .lst (ds.map docD)⟩, ⟨.no, .int n⟩, ⟨.no, .int p⟩, ⟨.no, .int q⟩, ⟨.no, .int (idn ds st)⟩] → sp_told_chain [⟨.no, .lst (ds.map docD)⟩, ⟨.no, .int n⟩, ⟨.no, .int p⟩, ⟨.no, .int q⟩, ⟨.no, .int (idn ds st)⟩] Q Qe :=
    fun st Q Qe h hq => ⟨_, _, _, _, _, rfl, hds, hn, hn2, p1, pq, q1, h, hq⟩
  unfold tch at htold
  generalize Gd n p q ds = G at *
  (try simp only [putBack, hold, resOf, initA, keepNo, wipeA, List.set_cons_zero, List.set_cons_succ, List.getElem?_cons_zero, List.getElem?_cons_succ, List.map_cons, List.map_nil, List.replicate_succ, List.replicate_zero, List.length_cons, List.length_nil, List.cons_append, List.nil_append, Nat.reduceSub, Nat.reduceAdd, Nat.zero_add, List.replicate])
  conv => whnf
  skip
  rw [hdl]
  conv => whnf
  refine callS_i ⟨_, _, rfl, hb, by omega, fun start c s0 s1 hb => ?_⟩
  (try simp only [putBack, hold, resOf, initA, keepNo, wipeA, List.set_cons_zero, List.set_cons_succ, List.getElem?_cons_zero, List.getElem?_cons_succ, List.map_cons, List.map_nil, List.replicate_succ, List.replicate_zero, List.length_cons, List.length_nil, List.cons_append, List.nil_append, Nat.reduceSub, Nat.reduceAdd, Nat.zero_add, List.replicate])
  obtain ⟨st2, rfl⟩ : ∃ k : Nat, start = k := ⟨start.toNat, by omega⟩
  have hst2 : st2 < ds.length := by omega
  (try simp only [putBack, hold, resOf, initA, keepNo, wipeA, List.set_cons_zero, List.set_cons_succ, List.getElem?_cons_zero, List.getElem?_cons_succ, List.map_cons, List.map_nil, List.replicate_succ, List.replicate_zero, List.length_cons, List.length_nil, List.cons_append, List.nil_append, Nat.reduceSub, Nat.reduceAdd, Nat.zero_add, List.replicate])
  conv => whnf
  refine callS_i ⟨_, _, _, rfl, hd8, hG, hst2, ?_⟩
  (try simp only [putBack, hold, resOf, initA, keepNo, wipeA, List.set_cons_zero, List.set_cons_succ, List.getElem?_cons_zero, List.getElem?_cons_succ, List.map_cons, List.map_nil, List.replicate_succ, List.replicate_zero, List.length_cons, List.length_nil, List.cons_append, List.nil_append, Nat.reduceSub, Nat.reduceAdd, Nat.zero_add, List.replicate])
  (try simp only [putBack, hold, resOf, initA, keepNo, wipeA, List.set_cons_zero, List.set_cons_succ, List.getElem?_cons_zero, List.getElem?_cons_succ, List.map_cons, List.map_nil, List.replicate_succ, List.replicate_zero, List.length_cons, List.length_nil, List.cons_append, List.nil_append, Nat.reduceSub, Nat.reduceAdd, Nat.zero_add, List.replicate])
  obtain ⟨rk, hkf, hkl, hk99, hkmin, hkd⟩ := kep_ok hG hd8 hst2
  have e9 : Ds ((List.range ds.length).map fun k => (dst ds.length G st2 k : Int)) = rT ds.length (dst ds.length G st2) := by
    unfold rT Ds
    rw [List.map_map]
    rfl
  have htold := htold st2
  rw [e9]
  generalize kep ds.length G st2 = κ at *
  conv => whnf
  refine ⟨(by first | omega | exact ⟨by omega, by omega⟩ | exact small (by simp only [List.length_cons, List.length_nil, List.length_append, List.length_map, ds_len, DS.rangeD_len]; try omega) | exact smaller (by simp only [List.length_cons, List.length_nil, List.length_append, List.length_map, ds_len, DS.rangeD_len]; omega) | exact cmul_r (by decide) (by decide) | exact cmul_l (by decide) (by decide) | exact ⟨by decide, by decide⟩ | exact cmul_l (by omega) (by omega) | exact cmul_r (by omega) (by omega) | (simp only [List.length_cons, List.length_nil, List.length_append, List.length_map, ds_len]; omega)), ?_⟩
  rw [hdl, show ((ds.length : Nat) : Int).toNat = ds.length by omega]
  conv => whnf
  refine lc_rv (fun j acc a1 a => ∃ x17 : Option AV, a = a1.set 17 x17 ∧ acc = Ds (((List.range j).filter fun k => decide (dst ds.length G st2 k < 99)).map fun j : Nat => (j : Int))) ⟨none, rfl, rfl⟩ ?_ ?_
  · rintro j acc a hj ⟨x17, rfl, rfl⟩
    have et : (0 + (j : Int)) = (j : Int) := by omega
    (try simp only [putBack, hold, resOf, initA, keepNo, wipeA, List.set_cons_zero, List.set_cons_succ, List.getElem?_cons_zero, List.getElem?_cons_succ, List.map_cons, List.map_nil, List.replicate_succ, List.replicate_zero, List.length_cons, List.length_nil, List.cons_append, List.nil_append, Nat.reduceSub, Nat.reduceAdd, Nat.zero_add, List.replicate])
    rw [et]
    conv => whnf
    refine onO_of (rT_at _ hj) ?_
    have hfl : ((List.range j).filter fun k => decide (dst ds.length G st2 k < 99)).length ≤ 8 := by
      have h1 := List.length_filter_le (fun k => decide (dst ds.length G st2 k < 99)) (List.range j)
      rw [List.length_range] at h1
      omega
    have hsn : (List.range (j + 1)).filter (fun k => decide (dst ds.length G st2 k < 99)) = (List.range j).filter (fun k => decide (dst ds.length G st2 k < 99)) ++ if dst ds.length G st2 j < 99 then [j] else [] := by
      rw [List.range_succ, List.filter_append]
      congr 1
      by_cases z : dst ds.length G st2 j < 99
      · simp [z]
      · simp [z]
    conv => whnf
    refine br_i (fun h => ?_) (fun h => ?_)
    · conv => whnf
      refine ⟨smaller (by unfold Ds; rw [List.length_map, List.length_map]; omega), _, rfl, ?_⟩
      rw [hsn, if_pos (by omega), List.map_append]
      unfold Ds
      rw [List.map_append]
      rfl
    · refine ⟨_, rfl, ?_⟩
      rw [hsn, if_neg (by omega), List.append_nil]
  rintro acc a ⟨x17, rfl, rfl⟩
  rw [hkf]
  (try simp only [putBack, hold, resOf, initA, keepNo, wipeA, List.set_cons_zero, List.set_cons_succ, List.getElem?_cons_zero, List.getElem?_cons_succ, List.map_cons, List.map_nil, List.replicate_succ, List.replicate_zero, List.length_cons, List.length_nil, List.cons_append, List.nil_append, Nat.reduceSub, Nat.reduceAdd, Nat.zero_add, List.replicate])
  conv => whnf
  refine onO_of (show atI (D.int (κ : Nat) :: _) 0 = some (.int (κ : Nat)) from atI_of (Int.le_refl _) rfl) ?_
  (try simp only [putBack, hold, resOf, initA, keepNo, wipeA, List.set_cons_zero, List.set_cons_succ, List.getElem?_cons_zero, List.getElem?_cons_succ, List.map_cons, List.map_nil, List.replicate_succ, List.replicate_zero, List.length_cons, List.length_nil, List.cons_append, List.nil_append, Nat.reduceSub, Nat.reduceAdd, Nat.zero_add, List.replicate])
  conv => whnf
  refine callS_i ⟨_, _, _, rfl, hd8, hG, hkl, ?_⟩
  (try simp only [putBack, hold, resOf, initA, keepNo, wipeA, List.set_cons_zero, List.set_cons_succ, List.getElem?_cons_zero, List.getElem?_cons_succ, List.map_cons, List.map_nil, List.replicate_succ, List.replicate_zero, List.length_cons, List.length_nil, List.cons_append, List.nil_append, Nat.reduceSub, Nat.reduceAdd, Nat.zero_add, List.replicate])
  (try simp only [putBack, hold, resOf, initA, keepNo, wipeA, List.set_cons_zero, List.set_cons_succ, List.getElem?_cons_zero, List.getElem?_cons_succ, List.map_cons, List.map_nil, List.replicate_succ, List.replicate_zero, List.length_cons, List.length_nil, List.cons_append, List.nil_append, Nat.reduceSub, Nat.reduceAdd, Nat.zero_add, List.replicate])
  have e11 : Ds ((List.range ds.length).map fun k => (dst ds.length G κ k : Int)) = rT ds.length (dst ds.length G κ) := by
    unfold rT Ds
    rw [List.map_map]
    rfl
  rw [e11]
  have hnok := node_ok hG hd8 hkl hst2 hkd
  have hdm := dst_small hG hd8 hkl hkd
  have hnear : ∀ k, k < ds.length → atI (nearD ds.length G) (k : Nat) = some (.lst (Ds (((List.range ds.length).filter (G k)).map fun j : Nat => (j : Int)))) := by
    intro k hk
    refine atI_of (by omega) ?_
    unfold nearD
    rw [List.getElem?_map, show ((k : Nat) : Int).toNat = k from rfl, List.getElem?_range hk]
    rfl
  generalize nearD ds.length G = N at *
  conv => whnf
  refine ⟨(by first | omega | exact ⟨by omega, by omega⟩ | exact small (by simp only [List.length_cons, List.length_nil, List.length_append, List.length_map, ds_len, DS.rangeD_len]; try omega) | exact smaller (by simp only [List.length_cons, List.length_nil, List.length_append, List.length_map, ds_len, DS.rangeD_len]; omega) | exact cmul_r (by decide) (by decide) | exact cmul_l (by decide) (by decide) | exact ⟨by decide, by decide⟩ | exact cmul_l (by omega) (by omega) | exact cmul_r (by omega) (by omega) | (simp only [List.length_cons, List.length_nil, List.length_append, List.length_map, ds_len]; omega)), ?_⟩
  (try simp only [putBack, hold, resOf, initA, keepNo, wipeA, List.set_cons_zero, List.set_cons_succ, List.getElem?_cons_zero, List.getElem?_cons_succ, List.map_cons, List.map_nil, List.replicate_succ, List.replicate_zero, List.length_cons, List.length_nil, List.cons_append, List.nil_append, Nat.reduceSub, Nat.reduceAdd, Nat.zero_add, List.replicate])
  conv => whnf
  refine onO_of (rT_at _ hst2) ?_
  conv => whnf
  refine ⟨(by first | omega | exact ⟨by omega, by omega⟩ | exact small (by simp only [List.length_cons, List.length_nil, List.length_append, List.length_map, ds_len, DS.rangeD_len]; try omega) | exact smaller (by simp only [List.length_cons, List.length_nil, List.length_append, List.length_map, ds_len, DS.rangeD_len]; omega) | exact cmul_r (by decide) (by decide) | exact cmul_l (by decide) (by decide) | exact ⟨by decide, by decide⟩ | exact cmul_l (by omega) (by omega) | exact cmul_r (by omega) (by omega) | (simp only [List.length_cons, List.length_nil, List.length_append, List.length_map, ds_len]; omega)), ?_⟩
  rw [show ((dst ds.length G κ st2 : Nat) : Int).toNat = dst ds.length G κ st2 by omega]
  generalize hr9 : rT ds.length (dst ds.length G st2) = r9
  conv => whnf
  refine for_r (fun k a => ∃ x13 x14 : Option AV, a = [some ⟨.no, .rol (Ds ns)⟩, some ⟨.own, c⟩, some ⟨.own, .lst (st.map wD)⟩, some ⟨.no, .lst (ds.map docD)⟩, some ⟨.no, .int n⟩, some ⟨.no, .tup [.int p, .int q]⟩, some ⟨.no, .lst (ds.map docD)⟩, some ⟨.no, .lst N⟩, some ⟨.no, .int st2⟩, some ⟨.own, .lst r9⟩, some ⟨.no, .int κ⟩, some ⟨.own, .lst (rT ds.length (dst ds.length G κ))⟩, some ⟨.own, .lst (Ds ((chn ds.length G κ st2 k).map fun j : Nat => (j : Int)))⟩, x13, x14, none, none, none]) ⟨none, none, rfl⟩ ?_ ?_
  · rintro k a hk ⟨x13, x14, rfl⟩
    have hlast : atI (Ds ((chn ds.length G κ st2 k).map fun j : Nat => (j : Int))) (-1) = some (.int (nodeAt ds.length G κ st2 k : Nat)) := by
      obtain ⟨xs, hxs⟩ := chn_last ds.length G κ st2 k
      rw [hxs, List.map_append]
      unfold Ds
      rw [List.map_append]
      exact last_atD _ _
    obtain ⟨hnl2, hnd3⟩ := hnok k (by omega)
    generalize hv : nodeAt ds.length G κ st2 k = v at hlast hnl2 hnd3
    have hv99 : dst ds.length G κ v < 99 := by omega
    (try simp only [putBack, hold, resOf, initA, keepNo, wipeA, List.set_cons_zero, List.set_cons_succ, List.getElem?_cons_zero, List.getElem?_cons_succ, List.map_cons, List.map_nil, List.replicate_succ, List.replicate_zero, List.length_cons, List.length_nil, List.cons_append, List.nil_append, Nat.reduceSub, Nat.reduceAdd, Nat.zero_add, List.replicate])
    conv => whnf
    refine onO_of hlast ?_
    conv => whnf
    refine onO_of (hnear v hnl2) ?_
    conv => whnf
    refine lc_i (fun i acc a => ∃ x17 : Option AV, acc = Ds (((((List.range ds.length).filter (G v)).take i).filter fun j => decide (dst ds.length G κ j + 1 = dst ds.length G κ v)).map fun j : Nat => (j : Int)) ∧ a = [some ⟨.no, .rol (Ds ns)⟩, some ⟨.own, c⟩, some ⟨.own, .lst (st.map wD)⟩, some ⟨.no, .lst (ds.map docD)⟩, some ⟨.no, .int n⟩, some ⟨.no, .tup [.int p, .int q]⟩, some ⟨.no, .lst (ds.map docD)⟩, some ⟨.no, .lst N⟩, some ⟨.no, .int st2⟩, some ⟨.own, .lst r9⟩, some ⟨.no, .int κ⟩, some ⟨.own, .lst (rT ds.length (dst ds.length G κ))⟩, some ⟨.own, .lst (Ds ((chn ds.length G κ st2 k).map fun j : Nat => (j : Int)))⟩, some ⟨.no, .int (0 + (k : Int))⟩, x14, none, none, x17]) ⟨_, rfl, rfl⟩ ?_ ?_
    · rintro i acc a d hi ⟨x17, rfl, rfl⟩
      unfold Ds at hi
      rw [List.getElem?_map, List.getElem?_map, Option.map_eq_some_iff] at hi
      obtain ⟨_, hi, rfl⟩ := hi
      obtain ⟨j, hj, rfl⟩ := Option.map_eq_some_iff.mp hi
      have hjm := List.mem_of_getElem? hj
      rw [List.mem_filter, List.mem_range] at hjm
      obtain ⟨hjl, hg⟩ := hjm
      have hnext := take_filter (fun j => decide (dst ds.length G κ j + 1 = dst ds.length G κ v)) hj
      have hfl : ((((List.range ds.length).filter (G v)).take i).filter fun j => decide (dst ds.length G κ j + 1 = dst ds.length G κ v)).length ≤ 8 := by
        have h1 := List.length_filter_le (fun j => decide (dst ds.length G κ j + 1 = dst ds.length G κ v)) (((List.range ds.length).filter (G v)).take i)
        have h2 := List.length_filter_le (G v) (List.range ds.length)
        rw [List.length_take] at h1
        rw [List.length_range] at h2
        omega
      (try simp only [putBack, hold, resOf, initA, keepNo, wipeA, List.set_cons_zero, List.set_cons_succ, List.getElem?_cons_zero, List.getElem?_cons_succ, List.map_cons, List.map_nil, List.replicate_succ, List.replicate_zero, List.length_cons, List.length_nil, List.cons_append, List.nil_append, Nat.reduceSub, Nat.reduceAdd, Nat.zero_add, List.replicate])
      conv => whnf
      refine onO_of (rT_at _ hjl) ?_
      conv => whnf
      refine onO_of hlast ?_
      conv => whnf
      refine onO_of (rT_at _ hnl2) ?_
      conv => whnf
      refine br_i (fun h => ?_) (fun h => ?_)
      · conv => whnf
        refine ⟨smaller (by unfold Ds; rw [List.length_map, List.length_map]; omega), _, ?_, rfl⟩
        rw [hnext, if_pos (decide_eq_true (by omega)), List.map_append]
        unfold Ds
        rw [List.map_append]
        rfl
      · refine ⟨_, ?_, rfl⟩
        rw [hnext, if_neg (fun z => h (by have := of_decide_eq_true z; omega)), List.append_nil]
    · rintro acc a ⟨x17, rfl, rfl⟩
      have hcl : (((List.range ds.length).filter (G v)).filter fun j => decide (dst ds.length G κ j + 1 = dst ds.length G κ v)) = clo ds.length G κ v := by
        unfold clo
        rw [List.filter_filter]
        refine List.filter_congr fun j _ => ?_
        rw [Bool.and_comm]
      rw [show (Ds (((List.range ds.length).filter (G v)).map fun j : Nat => (j : Int))).length = ((List.range ds.length).filter (G v)).length from by unfold Ds; rw [List.length_map, List.length_map], List.take_length, hcl]
      obtain ⟨u, r, hclo, hul, hug, hud⟩ := clo_some hG hd8 hkl hv99 (by omega)
      have hnode : nodeAt ds.length G κ st2 (k + 1) = u := by
        show (clo ds.length G κ (nodeAt ds.length G κ st2 k)).headD 0 = u
        rw [hv, hclo]
        rfl
      rw [hclo]
      (try simp only [putBack, hold, resOf, initA, keepNo, wipeA, List.set_cons_zero, List.set_cons_succ, List.getElem?_cons_zero, List.getElem?_cons_succ, List.map_cons, List.map_nil, List.replicate_succ, List.replicate_zero, List.length_cons, List.length_nil, List.cons_append, List.nil_append, Nat.reduceSub, Nat.reduceAdd, Nat.zero_add, List.replicate])
      conv => whnf
      refine onO_of (show atI (D.int (u : Nat) :: _) 0 = some (.int (u : Nat)) from atI_of (Int.le_refl _) rfl) ?_
      conv => whnf
      refine ⟨smaller (by unfold Ds; rw [List.length_map, List.length_map, chn_len]; omega), some ⟨.no, .int (0 + (k : Int))⟩, some ⟨.own, .lst (Ds ((u :: r).map fun j : Nat => (j : Int)))⟩, ?_⟩
      rw [chn_succ, hnode, List.map_append]
      unfold Ds
      rw [List.map_append]
      rfl
  · rintro a ⟨x13, x14, rfl⟩
    have hdoc : ∀ k, k < ds.length → atI (ds.map docD) (k : Nat) = some (docD (docAt ds k)) := by
      intro k hk
      refine atI_of (by omega) ?_
      rw [List.getElem?_map]
      show (ds[k]?).map docD = _
      rw [docAt_get hk]
      rfl
    conv => whnf
    refine onO_of (hdoc st2 hst2) ?_
    (try simp only [putBack, hold, resOf, initA, keepNo, wipeA, List.set_cons_zero, List.set_cons_succ, List.getElem?_cons_zero, List.getElem?_cons_succ, List.map_cons, List.map_nil, List.replicate_succ, List.replicate_zero, List.length_cons, List.length_nil, List.cons_append, List.nil_append, Nat.reduceSub, Nat.reduceAdd, Nat.zero_add, List.replicate])
    conv => whnf
    refine callS_i (htold _ _ hst2 ?_)
    (try simp only [putBack, hold, resOf, initA, keepNo, wipeA, List.set_cons_zero, List.set_cons_succ, List.getElem?_cons_zero, List.getElem?_cons_succ, List.map_cons, List.map_nil, List.replicate_succ, List.replicate_zero, List.length_cons, List.length_nil, List.cons_append, List.nil_append, Nat.reduceSub, Nat.reduceAdd, Nat.zero_add, List.replicate])
    have hcm : ∀ j ∈ chn ds.length G κ st2 (dst ds.length G κ st2), j < ds.length := by
      intro j hj
      unfold chn at hj
      obtain ⟨k, hk, rfl⟩ := List.mem_map.mp hj
      exact (hnok k (by have := List.mem_range.mp hk; omega)).1
    conv => whnf
    refine lc_i (fun i acc a => ∃ x17 : Option AV, acc = Ds (((chn ds.length G κ st2 (dst ds.length G κ st2)).take i).map (idn ds)) ∧ a = [some ⟨.no, .rol (Ds ns)⟩, some ⟨.own, c⟩, some ⟨.own, .lst (st.map wD)⟩, some ⟨.no, .lst (ds.map docD)⟩, some ⟨.no, .int n⟩, some ⟨.no, .tup [.int p, .int q]⟩, some ⟨.no, .lst (ds.map docD)⟩, some ⟨.no, .lst N⟩, some ⟨.no, .int st2⟩, some ⟨.own, .lst r9⟩, some ⟨.no, .int κ⟩, some ⟨.own, .lst (rT ds.length (dst ds.length G κ))⟩, some ⟨.no, .lst (Ds ((chn ds.length G κ st2 (dst ds.length G κ st2)).map fun j : Nat => (j : Int)))⟩, x13, x14, some ⟨.no, .int (idn ds st2)⟩, some ⟨.own, .lst (Ds ((chn ds.length G κ st2 (dst ds.length G κ st2)).map (idn ds)))⟩, x17]) ⟨_, rfl, rfl⟩ ?_ ?_
    · rintro i acc a d hi ⟨x17, rfl, rfl⟩
      unfold Ds at hi
      rw [List.getElem?_map, List.getElem?_map, Option.map_eq_some_iff] at hi
      obtain ⟨_, hi, rfl⟩ := hi
      obtain ⟨j, hj, rfl⟩ := Option.map_eq_some_iff.mp hi
      have hjl := hcm j (List.mem_of_getElem? hj)
      conv => whnf
      refine onO_of (hdoc j hjl) ?_
      conv => whnf
      refine ⟨smaller (by unfold Ds; rw [List.length_map, List.length_map, List.length_take, chn_len]; omega), _, ?_, rfl⟩
      rw [List.take_add_one, hj, List.map_append]
      unfold Ds
      rw [List.map_append]
      rfl
    rintro acc a ⟨x17, rfl, rfl⟩
    rw [show (Ds ((chn ds.length G κ st2 (dst ds.length G κ st2)).map fun j : Nat => (j : Int))).length = (chn ds.length G κ st2 (dst ds.length G κ st2)).length from by unfold Ds; rw [List.length_map, List.length_map], List.take_length]
    (try simp only [putBack, hold, resOf, initA, keepNo, wipeA, List.set_cons_zero, List.set_cons_succ, List.getElem?_cons_zero, List.getElem?_cons_succ, List.map_cons, List.map_nil, List.replicate_succ, List.replicate_zero, List.length_cons, List.length_nil, List.cons_append, List.nil_append, Nat.reduceSub, Nat.reduceAdd, Nat.zero_add, List.replicate])
    have hpl : ∀ n : Nat, Pl (n + 1) (.lst (Ds ((chn ds.length G κ st2 (dst ds.length G κ st2)).map (idn ds)))) := by
      intro n
      refine ⟨by unfold Ds; rw [List.length_map, List.length_map, chn_len]; omega, fun x hx => ?_⟩
      obtain ⟨j, _, rfl⟩ := List.mem_map.mp hx
      exact pl_int _ _
    conv => whnf
    refine callS_i ⟨_, _, _, rfl, hpl _, ?_⟩
    (try simp only [putBack, hold, resOf, initA, keepNo, wipeA, List.set_cons_zero, List.set_cons_succ, List.getElem?_cons_zero, List.getElem?_cons_succ, List.map_cons, List.map_nil, List.replicate_succ, List.replicate_zero, List.length_cons, List.length_nil, List.cons_append, List.nil_append, Nat.reduceSub, Nat.reduceAdd, Nat.zero_add, List.replicate])
    conv => whnf
    refine callS_i ⟨_, _, _, rfl, pl_docs _ hds, ?_⟩
    (try simp only [putBack, hold, resOf, initA, keepNo, wipeA, List.set_cons_zero, List.set_cons_succ, List.getElem?_cons_zero, List.getElem?_cons_succ, List.map_cons, List.map_nil, List.replicate_succ, List.replicate_zero, List.length_cons, List.length_nil, List.cons_append, List.nil_append, Nat.reduceSub, Nat.reduceAdd, Nat.zero_add, List.replicate])
    have hfirst : atI (Ds ((chn ds.length G κ st2 (dst ds.length G κ st2)).map (idn ds))) 0 = some (.int (idn ds st2)) := by
      refine atI_of (Int.le_refl _) ?_
      unfold chn Ds
      rw [List.getElem?_map, List.getElem?_map, List.getElem?_map, show (0 : Int).toNat = 0 from rfl, List.getElem?_range (by omega)]
      rfl
    have hlast : atI (Ds ((chn ds.length G κ st2 (dst ds.length G κ st2)).map (idn ds))) (-1) = some (.int (idn ds κ)) := by
      obtain ⟨xs, hxs⟩ := chn_last ds.length G κ st2 (dst ds.length G κ st2)
      obtain ⟨hn1, hn2⟩ := hnok _ (Nat.le_refl _)
      rw [Nat.sub_self] at hn2
      rw [dst_zero hd8 hn2] at hxs
      rw [hxs, List.map_append]
      unfold Ds
      rw [List.map_append]
      exact last_atD _ _
    conv => whnf
    refine onO_of hfirst ?_
    conv => whnf
    rw [decide_eq_true (rfl : idn ds st2 = idn ds st2)]
    conv => whnf
    refine onO_of hlast ?_
    conv => whnf
    refine onO_of (hdoc κ hkl) ?_
    conv => whnf
    rw [decide_eq_true (show idn ds κ = (docAt ds κ).1 from rfl)]
    conv => whnf
    exact hq _

section
variable {P : Program} {w : World} {K : PySem.W.Frag} {mg : Str → Option Value} {base : Heap}
theorem ok_Ldraw (F : FunAt K mg "_law_draw" s_Ldraw ["_law_box", "_law_many"]) (z_len : mg "len" = none) (z_int : mg "int" = none) : Cal P w K mg base 1 "_law_draw" ["_law_box", "_law_many"] sp_Ldraw := by
  refine F.cal fun f fd F => ok_def (N := N_Ldraw) (wb := w_Ldraw) F sc_Ldraw har_Ldraw (by decide) (fun cdv A outer s0 H E hr => ?_) pure_Ldraw
  have hu1 := hu_of hr
  have hu64 := hr.units
  have hu65 := hu65_of hr
  exact ⟨_, (sss_cons (ss_set (i := 2) sc_Ldraw.nd rfl (Or.inl rfl) (se_ix (se_var (pv 0)) se_int (fun _ _ => rfl))) (sss_cons (ss_setIx (i := 0) (pv 0) se_int (se_op op_addA dAdd_ok (se_var (pv 2)) se_int)) (sss_cons (ss_if (st_cmp op_lt dLt_ok (se_var (pv 2)) (se_callB call_lenA dLen_ok (by rfl) z_len (by decide +kernel) (sa_cons (se_ix (se_var (pv 0)) se_int (fun _ _ => rfl)) sa_nil)) (nomark _)) (sss_one (ss_ret (se_op op_mod dMod_ok (se_callTy call_int1 dInt_ok (by rfl) z_int (by decide +kernel) (sa_cons (se_ix (se_ix (se_var (pv 0)) se_int (fun _ _ => rfl)) (se_var (pv 2)) (fun _ _ => rfl)) sa_nil)) (se_var (pv 1))))) sss_nil) (sss_one (ss_ret se_int)))))⟩
theorem ok_Lsolid (F : FunAt K mg "_law_solid" s_Lsolid ["_law_box"]) (c_Ldraw : Cal P w K mg base 1 "_law_draw" ["_law_box", "_law_many"] sp_Ldraw) : Cal P w K mg base 2 "_law_solid" ["_law_box"] sp_Lsolid := by
  obtain ⟨f_Ldraw, fd_Ldraw, G_Ldraw, m_Ldraw, k_Ldraw, b_Ldraw⟩ := c_Ldraw
  refine F.cal fun f fd F => ok_def (N := N_Lsolid) (wb := w_Lsolid) F sc_Lsolid har_Lsolid (by decide) (fun cdv A outer s0 H E hr => ?_) pure_Lsolid
  have hu1 := hu_of hr
  have hu64 := hr.units
  have hu65 := hu65_of hr
  exact ⟨_, (sss_cons (ss_set (i := 1) sc_Lsolid.nd rfl (Or.inl rfl) se_str) (sss_one (ss_ret (se_ix (se_var (pv 1)) (se_call G_Ldraw (hr.mono (by omega)) (by rfl) m_Ldraw k_Ldraw b_Ldraw (sa_cons (se_var (pv 0)) (sa_cons se_int sa_nil))) (fun _ _ => rfl)))))⟩
theorem ok_Lword (F : FunAt K mg "_law_word" s_Lword ["_law_box", "_law_many"]) (z_range : mg "range" = none) (c_Lsolid : Cal P w K mg base 2 "_law_solid" ["_law_box"] sp_Lsolid) : Cal P w K mg base 3 "_law_word" ["_law_box", "_law_many"] sp_Lword := by
  obtain ⟨f_Lsolid, fd_Lsolid, G_Lsolid, m_Lsolid, k_Lsolid, b_Lsolid⟩ := c_Lsolid
  refine F.cal fun f fd F => ok_def (N := N_Lword) (wb := w_Lword) F sc_Lword har_Lword (by decide) (fun cdv A outer s0 H E hr => ?_) pure_Lword
  have hu1 := hu_of hr
  have hu64 := hr.units
  have hu65 := hu65_of hr
  exact ⟨_, (sss_cons (ss_set (i := 2) sc_Lword.nd rfl (Or.inl rfl) se_str) (sss_cons (ss_for PassesOwn.never rfl (si_range1 (by rfl) z_range (sa_cons (se_var (pv 1)) sa_nil)) (sg_name (i := 3) sc_Lword.nd rfl (Or.inl rfl)) (sss_one (ss_set (i := 2) sc_Lword.nd rfl (Or.inl rfl) (se_op op_addA dAdd_ok (se_var (pv 2)) (se_call G_Lsolid (hr.mono (by omega)) (by rfl) m_Lsolid k_Lsolid b_Lsolid (sa_cons (se_var (pv 0)) sa_nil)))))) (sss_one (ss_ret (se_var (pv 2))))))⟩
theorem ok_Lstock (F : FunAt K mg "_law_stock" s_Lstock ["_law_box", "_law_many"]) (z_range : mg "range" = none) (c_Lword : Cal P w K mg base 3 "_law_word" ["_law_box", "_law_many"] sp_Lword) (c_Ldraw : Cal P w K mg base 1 "_law_draw" ["_law_box", "_law_many"] sp_Ldraw) (c_Lsolid : Cal P w K mg base 2 "_law_solid" ["_law_box"] sp_Lsolid) : Cal P w K mg base 4 "_law_stock" ["_law_box", "_law_many"] sp_Lstock := by
  obtain ⟨f_Lword, fd_Lword, G_Lword, m_Lword, k_Lword, b_Lword⟩ := c_Lword
  obtain ⟨f_Ldraw, fd_Ldraw, G_Ldraw, m_Ldraw, k_Ldraw, b_Ldraw⟩ := c_Ldraw
  obtain ⟨f_Lsolid, fd_Lsolid, G_Lsolid, m_Lsolid, k_Lsolid, b_Lsolid⟩ := c_Lsolid
  refine F.cal fun f fd F => ok_def (N := N_Lstock) (wb := w_Lstock) F sc_Lstock har_Lstock (by decide) (fun cdv A outer s0 H E hr => ?_) pure_Lstock
  have hu1 := hu_of hr
  have hu64 := hr.units
  have hu65 := hu65_of hr
  exact ⟨_, (sss_cons (ss_set (i := 2) sc_Lstock.nd rfl (Or.inl rfl) (se_lst sa_nil)) (sss_cons (ss_set (i := 3) sc_Lstock.nd rfl (Or.inl rfl) (se_call G_Lword (hr.mono (by omega)) (by rfl) m_Lword k_Lword b_Lword (sa_cons (se_var (pv 0)) (sa_cons (se_call G_Ldraw (hr.mono (by omega)) (by rfl) m_Ldraw k_Ldraw b_Ldraw (sa_cons (se_var (pv 0)) (sa_cons se_int sa_nil))) sa_nil)))) (sss_cons (ss_set (i := 4) sc_Lstock.nd rfl (Or.inl rfl) (se_call G_Lword (hr.mono (by omega)) (by rfl) m_Lword k_Lword b_Lword (sa_cons (se_var (pv 0)) (sa_cons (se_call G_Ldraw (hr.mono (by omega)) (by rfl) m_Ldraw k_Ldraw b_Ldraw (sa_cons (se_var (pv 0)) (sa_cons se_int sa_nil))) sa_nil)))) (sss_cons (ss_for PassesOwn.never rfl (si_range1 (by rfl) z_range (sa_cons (se_var (pv 1)) sa_nil)) (sg_name (i := 5) sc_Lstock.nd rfl (Or.inl rfl)) (sss_cons (ss_set (i := 6) sc_Lstock.nd rfl (Or.inl rfl) (se_op op_addA dAdd_ok (se_op op_addA dAdd_ok (se_var (pv 3)) (se_call G_Lsolid (hr.mono (by omega)) (by rfl) m_Lsolid k_Lsolid b_Lsolid (sa_cons (se_var (pv 0)) sa_nil))) (se_var (pv 4)))) (sss_one (ss_if (st_cmp op_notInA dNotIn_ok (se_var (pv 6)) (se_var (pv 2)) (by rfl)) (sss_one (ss_append (pv 2) (se_var (pv 6)))) sss_nil)))) (sss_one (ss_ret (se_var (pv 2))))))))⟩
theorem ok_Lpiece (F : FunAt K mg "_law_piece" s_Lpiece ["_law_box", "_law_stock_here"]) (z_len : mg "len" = none) (z_range : mg "range" = none) (c_Ldraw : Cal P w K mg base 1 "_law_draw" ["_law_box", "_law_many"] sp_Ldraw) : Cal P w K mg base 2 "_law_piece" ["_law_box", "_law_stock_here"] sp_Lpiece := by
  obtain ⟨f_Ldraw, fd_Ldraw, G_Ldraw, m_Ldraw, k_Ldraw, b_Ldraw⟩ := c_Ldraw
  refine F.cal fun f fd F => ok_def (N := N_Lpiece) (wb := w_Lpiece) F sc_Lpiece har_Lpiece (by decide) (fun cdv A outer s0 H E hr => ?_) pure_Lpiece
  have hu1 := hu_of hr
  have hu64 := hr.units
  have hu65 := hu65_of hr
  exact ⟨_, (sss_cons (ss_set (i := 2) sc_Lpiece.nd rfl (Or.inl rfl) (se_op op_addA dAdd_ok se_int (se_call G_Ldraw (hr.mono (by omega)) (by rfl) m_Ldraw k_Ldraw b_Ldraw (sa_cons (se_var (pv 0)) (sa_cons se_int sa_nil))))) (sss_cons (ss_if (st_cmp (op_eqA hu64) dEq_ok (se_call G_Ldraw (hr.mono (by omega)) (by rfl) m_Ldraw k_Ldraw b_Ldraw (sa_cons (se_var (pv 0)) (sa_cons se_int sa_nil))) se_int (nomark _)) (sss_cons (ss_set (i := 3) sc_Lpiece.nd rfl (Or.inr rfl) (se_ix (se_var (pv 1)) (se_call G_Ldraw (hr.mono (by omega)) (by rfl) m_Ldraw k_Ldraw b_Ldraw (sa_cons (se_var (pv 0)) (sa_cons (se_callB call_lenA dLen_ok (by rfl) z_len (by decide +kernel) (sa_cons (se_var (pv 1)) sa_nil)) sa_nil))) (fun _ _ => rfl))) (sss_one (ss_ret (se_lc (own := [("_law_k", 4)]) rfl sc_Lpiece.nd (si_range1 (by rfl) z_range (sa_cons (se_op op_addA dAdd_ok (se_var (pv 2)) (se_call G_Ldraw (hr.mono (by omega)) (by rfl) m_Ldraw k_Ldraw b_Ldraw (sa_cons (se_var (pv 0)) (sa_cons se_int sa_nil)))) sa_nil)) (blkOk_by (own := [("_law_k", 4)]) (N := N_Lpiece) (sc := defScope s_Lpiece) (by decide +kernel)) (by intro _ _ _ _ _; exact ⟨_, (sg_name (i := 4) sc_Lpiece.nd rfl (Or.inl rfl))⟩) (by decide) (by intro _ _ _ _ _; exact ⟨_, sts_nil⟩) (by intro _ _ _ _ _; exact ⟨_, (se_var (pv 3))⟩))))) sss_nil) (sss_one (ss_ret (se_lc (own := [("_law_k", 4)]) rfl sc_Lpiece.nd (si_range1 (by rfl) z_range (sa_cons (se_var (pv 2)) sa_nil)) (blkOk_by (own := [("_law_k", 4)]) (N := N_Lpiece) (sc := defScope s_Lpiece) (by decide +kernel)) (by intro _ _ _ _ _; exact ⟨_, (sg_name (i := 4) sc_Lpiece.nd rfl (Or.inl rfl))⟩) (by decide) (by intro _ _ _ _ _; exact ⟨_, sts_nil⟩) (by intro _ _ _ _ _; exact ⟨_, (se_ix (se_var (pv 1)) (se_call G_Ldraw (hr.mono (by omega)) (by rfl) m_Ldraw k_Ldraw b_Ldraw (sa_cons (se_var (pv 0)) (sa_cons (se_callB call_lenA dLen_ok (by rfl) z_len (by decide +kernel) (sa_cons (se_var (pv 1)) sa_nil)) sa_nil))) (fun _ _ => rfl))⟩))))))⟩
theorem ok_Lpieces (F : FunAt K mg "_law_pieces" s_Lpieces ["_law_box", "_law_stock_here"]) (z_range : mg "range" = none) (c_Ldraw : Cal P w K mg base 1 "_law_draw" ["_law_box", "_law_many"] sp_Ldraw) (c_Lpiece : Cal P w K mg base 2 "_law_piece" ["_law_box", "_law_stock_here"] sp_Lpiece) : Cal P w K mg base 3 "_law_pieces" ["_law_box", "_law_stock_here"] sp_Lpieces := by
  obtain ⟨f_Ldraw, fd_Ldraw, G_Ldraw, m_Ldraw, k_Ldraw, b_Ldraw⟩ := c_Ldraw
  obtain ⟨f_Lpiece, fd_Lpiece, G_Lpiece, m_Lpiece, k_Lpiece, b_Lpiece⟩ := c_Lpiece
  refine F.cal fun f fd F => ok_def (N := N_Lpieces) (wb := w_Lpieces) F sc_Lpieces har_Lpieces (by decide) (fun cdv A outer s0 H E hr => ?_) pure_Lpieces
  have hu1 := hu_of hr
  have hu64 := hr.units
  have hu65 := hu65_of hr
  exact ⟨_, (sss_one (ss_ret (se_lc (own := [("_law_k", 2)]) rfl sc_Lpieces.nd (si_range1 (by rfl) z_range (sa_cons (se_op op_addA dAdd_ok se_int (se_call G_Ldraw (hr.mono (by omega)) (by rfl) m_Ldraw k_Ldraw b_Ldraw (sa_cons (se_var (pv 0)) (sa_cons se_int sa_nil)))) sa_nil)) (blkOk_by (own := [("_law_k", 2)]) (N := N_Lpieces) (sc := defScope s_Lpieces) (by decide +kernel)) (by intro _ _ _ _ _; exact ⟨_, (sg_name (i := 2) sc_Lpieces.nd rfl (Or.inl rfl))⟩) (by decide) (by intro _ _ _ _ _; exact ⟨_, sts_nil⟩) (by intro _ _ _ _ _; exact ⟨_, (se_call G_Lpiece (hr.mono (by omega)) (by rfl) m_Lpiece k_Lpiece b_Lpiece (sa_cons (se_var (pv 0)) (sa_cons (se_var (pv 1)) sa_nil)))⟩))))⟩
theorem ok_Ldocuments (F : FunAt K mg "_law_documents" s_Ldocuments ["_law_box", "_law_stock_here"]) (z_range : mg "range" = none) (z_list : mg "list" = none) (z_len : mg "len" = none) (c_Ldraw : Cal P w K mg base 1 "_law_draw" ["_law_box", "_law_many"] sp_Ldraw) (c_Lpieces : Cal P w K mg base 3 "_law_pieces" ["_law_box", "_law_stock_here"] sp_Lpieces) : Cal P w K mg base 4 "_law_documents" ["_law_box", "_law_stock_here"] sp_Ldocuments := by
  obtain ⟨f_Ldraw, fd_Ldraw, G_Ldraw, m_Ldraw, k_Ldraw, b_Ldraw⟩ := c_Ldraw
  obtain ⟨f_Lpieces, fd_Lpieces, G_Lpieces, m_Lpieces, k_Lpieces, b_Lpieces⟩ := c_Lpieces
  refine F.cal fun f fd F => ok_def (N := N_Ldocuments) (wb := w_Ldocuments) F sc_Ldocuments har_Ldocuments (by decide) (fun cdv A outer s0 H E hr => ?_) pure_Ldocuments
  have hu1 := hu_of hr
  have hu64 := hr.units
  have hu65 := hu65_of hr
  exact ⟨_, (sss_cons (ss_set (i := 2) sc_Ldocuments.nd rfl (Or.inl rfl) (se_lst sa_nil)) (sss_cons (ss_set (i := 3) sc_Ldocuments.nd rfl (Or.inl rfl) (se_neg se_int)) (sss_cons (ss_for PassesOwn.never rfl (si_range1 (by rfl) z_range (sa_cons (se_call G_Ldraw (hr.mono (by omega)) (by rfl) m_Ldraw k_Ldraw b_Ldraw (sa_cons (se_var (pv 0)) (sa_cons se_int sa_nil))) sa_nil)) (sg_name (i := 4) sc_Ldocuments.nd rfl (Or.inl rfl)) (sss_cons (ss_set (i := 3) sc_Ldocuments.nd rfl (Or.inl rfl) (se_op op_addA dAdd_ok (se_op op_addA dAdd_ok (se_var (pv 3)) se_int) (se_op op_mulA dMul_ok (se_call G_Ldraw (hr.mono (by omega)) (by rfl) m_Ldraw k_Ldraw b_Ldraw (sa_cons (se_var (pv 0)) (sa_cons se_int sa_nil))) (se_call G_Ldraw (hr.mono (by omega)) (by rfl) m_Ldraw k_Ldraw b_Ldraw (sa_cons (se_var (pv 0)) (sa_cons se_int sa_nil)))))) (sss_cons (ss_if (SW.st (sw_and (st_cmp op_gt dGt_ok (se_var (pv 4)) se_int (nomark _)) (sw_and1 (st_cmp (op_eqA hu64) dEq_ok (se_call G_Ldraw (hr.mono (by omega)) (by rfl) m_Ldraw k_Ldraw b_Ldraw (sa_cons (se_var (pv 0)) (sa_cons se_int sa_nil))) se_int (nomark _))))) (sss_cons (ss_setLc (i := 5) (own := [("_law_piece_here", 6)]) rfl sc_Ldocuments.nd rfl rfl (sw_true rfl rfl rfl (by decide +kernel)) (si_list (se_ix (se_ix (se_var (pv 2)) (se_call G_Ldraw (hr.mono (by omega)) (by rfl) m_Ldraw k_Ldraw b_Ldraw (sa_cons (se_var (pv 0)) (sa_cons (se_var (pv 4)) sa_nil))) (fun _ _ => rfl)) se_int (fun _ _ => rfl))) (blkOk_by (own := [("_law_piece_here", 6)]) (N := N_Ldocuments) (sc := defScope s_Ldocuments) (by decide +kernel)) (by intro _ _ _ _ _; exact ⟨_, (sg_name (i := 6) sc_Ldocuments.nd rfl (Or.inl rfl))⟩) (by decide) (by intro _ _ _ _ _; exact ⟨_, sts_nil⟩) (by intro _ _ _ _ _; exact ⟨_, (se_callTy call_list_of dList_ok (by rfl) z_list (by decide +kernel) (sa_cons (se_var (pv 6)) sa_nil))⟩)) (sss_one (ss_setIx (i := 5) (pv 5) se_int (se_op op_addA dAdd_ok (se_ix (se_var (pv 5)) se_int (fun _ _ => rfl)) (se_lst (sa_cons (se_ix (se_var (pv 1)) (se_call G_Ldraw (hr.mono (by omega)) (by rfl) m_Ldraw k_Ldraw b_Ldraw (sa_cons (se_var (pv 0)) (sa_cons (se_callB call_lenA dLen_ok (by rfl) z_len (by decide +kernel) (sa_cons (se_var (pv 1)) sa_nil)) sa_nil))) (fun _ _ => rfl)) sa_nil)))))) (sss_one (ss_set (i := 5) sc_Ldocuments.nd rfl (Or.inl rfl) (se_call G_Lpieces (hr.mono (by omega)) (by rfl) m_Lpieces k_Lpieces b_Lpieces (sa_cons (se_var (pv 0)) (sa_cons (se_var (pv 1)) sa_nil)))))) (sss_one (ss_append (pv 2) (se_tup (sa_cons (se_var (pv 3)) (sa_cons (se_var (pv 5)) sa_nil)))))))) (sss_one (ss_ret (se_var (pv 2)))))))⟩
theorem ok_Llength (F : FunAt K mg "_law_length" s_Llength ["_law_box"]) (c_Ldraw : Cal P w K mg base 1 "_law_draw" ["_law_box", "_law_many"] sp_Ldraw) : Cal P w K mg base 2 "_law_length" ["_law_box"] sp_Llength := by
  obtain ⟨f_Ldraw, fd_Ldraw, G_Ldraw, m_Ldraw, k_Ldraw, b_Ldraw⟩ := c_Ldraw
  refine F.cal fun f fd F => ok_def (N := N_Llength) (wb := w_Llength) F sc_Llength har_Llength (by decide) (fun cdv A outer s0 H E hr => ?_) pure_Llength
  have hu1 := hu_of hr
  have hu64 := hr.units
  have hu65 := hu65_of hr
  exact ⟨_, (sss_cons (ss_if (st_cmp (op_eqA hu64) dEq_ok (se_call G_Ldraw (hr.mono (by omega)) (by rfl) m_Ldraw k_Ldraw b_Ldraw (sa_cons (se_var (pv 0)) (sa_cons se_int sa_nil))) se_int (nomark _)) (sss_one (ss_ret (se_op op_addA dAdd_ok se_int (se_call G_Ldraw (hr.mono (by omega)) (by rfl) m_Ldraw k_Ldraw b_Ldraw (sa_cons (se_var (pv 0)) (sa_cons se_int sa_nil)))))) sss_nil) (sss_one (ss_ret (se_op op_addA dAdd_ok se_int (se_call G_Ldraw (hr.mono (by omega)) (by rfl) m_Ldraw k_Ldraw b_Ldraw (sa_cons (se_var (pv 0)) (sa_cons se_int sa_nil)))))))⟩
theorem ok_Lshare (F : FunAt K mg "_law_share" s_Lshare ["_law_box"]) (c_Ldraw : Cal P w K mg base 1 "_law_draw" ["_law_box", "_law_many"] sp_Ldraw) : Cal P w K mg base 2 "_law_share" ["_law_box"] sp_Lshare := by
  obtain ⟨f_Ldraw, fd_Ldraw, G_Ldraw, m_Ldraw, k_Ldraw, b_Ldraw⟩ := c_Ldraw
  refine F.cal fun f fd F => ok_def (N := N_Lshare) (wb := w_Lshare) F sc_Lshare har_Lshare (by decide) (fun cdv A outer s0 H E hr => ?_) pure_Lshare
  have hu1 := hu_of hr
  have hu64 := hr.units
  have hu65 := hu65_of hr
  exact ⟨_, (sss_cons (ss_set (i := 1) sc_Lshare.nd rfl (Or.inl rfl) (se_op op_addA dAdd_ok se_int (se_call G_Ldraw (hr.mono (by omega)) (by rfl) m_Ldraw k_Ldraw b_Ldraw (sa_cons (se_var (pv 0)) (sa_cons se_int sa_nil))))) (sss_cons (ss_if (st_cmp (op_eqA hu64) dEq_ok (se_call G_Ldraw (hr.mono (by omega)) (by rfl) m_Ldraw k_Ldraw b_Ldraw (sa_cons (se_var (pv 0)) (sa_cons se_int sa_nil))) se_int (nomark _)) (sss_one (ss_set (i := 1) sc_Lshare.nd rfl (Or.inl rfl) se_int)) sss_nil) (sss_one (ss_ret (se_tup (sa_cons (se_op op_addA dAdd_ok se_int (se_call G_Ldraw (hr.mono (by omega)) (by rfl) m_Ldraw k_Ldraw b_Ldraw (sa_cons (se_var (pv 0)) (sa_cons (se_var (pv 1)) sa_nil)))) (sa_cons (se_var (pv 1)) sa_nil)))))))⟩
theorem ok_Lcopied (F : FunAt K mg "_law_copied" s_Lcopied ["_law_documents_here"]) (z_list : mg "list" = none) : Cal P w K mg base 1 "_law_copied" ["_law_documents_here"] sp_Lcopied := by
  refine F.cal fun f fd F => ok_def (N := N_Lcopied) (wb := w_Lcopied) F sc_Lcopied har_Lcopied (by decide) (fun cdv A outer s0 H E hr => ?_) pure_Lcopied
  have hu1 := hu_of hr
  have hu64 := hr.units
  have hu65 := hu65_of hr
  exact ⟨_, (sss_cons (ss_set (i := 1) sc_Lcopied.nd rfl (Or.inl rfl) (se_lst sa_nil)) (sss_cons (ss_for PassesOwn.never rfl (si_list (se_var (pv 0))) (sg_tup (n := 2) rfl (sgs_cons (sg_name (i := 2) sc_Lcopied.nd rfl (Or.inl rfl)) (sgs_cons (sg_name (i := 3) sc_Lcopied.nd rfl (Or.inl rfl)) sgs_nil))) (sss_one (ss_append (pv 1) (se_tup (sa_cons (se_var (pv 2)) (sa_cons (se_lc (own := [("_law_piece_here", 4)]) rfl sc_Lcopied.nd (si_list (se_var (pv 3))) (blkOk_by (own := [("_law_piece_here", 4)]) (N := N_Lcopied) (sc := defScope s_Lcopied) (by decide +kernel)) (by intro _ _ _ _ _; exact ⟨_, (sg_name (i := 4) sc_Lcopied.nd rfl (Or.inl rfl))⟩) (by decide) (by intro _ _ _ _ _; exact ⟨_, sts_nil⟩) (by intro _ _ _ _ _; exact ⟨_, (se_callTy call_list_of dList_ok (by rfl) z_list (by decide +kernel) (sa_cons (se_var (pv 4)) sa_nil))⟩)) sa_nil)))))) (sss_one (ss_ret (se_var (pv 1))))))⟩
theorem ok_Lshingles (F : FunAt K mg "_law_shingles" s_Lshingles ["_law_pieces_here", "_law_length_here"]) (z_len : mg "len" = none) (z_max : mg "max" = none) (z_range : mg "range" = none) : Cal P w K mg base 1 "_law_shingles" ["_law_pieces_here", "_law_length_here"] sp_Lshingles := by
  refine F.cal fun f fd F => ok_def (N := N_Lshingles) (wb := w_Lshingles) F sc_Lshingles har_Lshingles (by decide) (fun cdv A outer s0 H E hr => ?_) pure_Lshingles
  have hu1 := hu_of hr
  have hu64 := hr.units
  have hu65 := hu65_of hr
  exact ⟨_, (sss_cons (ss_set (i := 2) sc_Lshingles.nd rfl (Or.inl rfl) (se_lst sa_nil)) (sss_cons (ss_for PassesOwn.never rfl (si_list (se_var (pv 0))) (sg_name (i := 3) sc_Lshingles.nd rfl (Or.inl rfl)) (sss_one (ss_for PassesOwn.never rfl (si_range1 (by rfl) z_range (sa_cons (se_callB (call_max2 rfl) dMax2_ok (by rfl) z_max (by decide +kernel) (sa_cons se_int (sa_cons (se_op op_addA dAdd_ok (se_op op_sub dSub_ok (se_callB call_lenA dLen_ok (by rfl) z_len (by decide +kernel) (sa_cons (se_var (pv 3)) sa_nil)) (se_var (pv 1))) se_int) sa_nil))) sa_nil)) (sg_name (i := 4) sc_Lshingles.nd rfl (Or.inl rfl)) (sss_cons (ss_set (i := 5) sc_Lshingles.nd rfl (Or.inl rfl) (se_slice (se_var (pv 3)) (so_some (se_var (pv 4))) (so_some (se_op op_addA dAdd_ok (se_var (pv 4)) (se_var (pv 1)))))) (sss_one (ss_if (st_cmp (op_notInD hu65) dNotInD_ok (se_var (pv 5)) (se_var (pv 2)) (by rfl)) (sss_one (ss_append (pv 2) (se_var (pv 5)))) sss_nil)))))) (sss_one (ss_ret (se_var (pv 2))))))⟩
theorem ok_Lcompared (F : FunAt K mg "_law_compared" s_Lcompared ["_law_first", "_law_second", "_law_length_here"]) (z_len : mg "len" = none) (c_Lshingles : Cal P w K mg base 1 "_law_shingles" ["_law_pieces_here", "_law_length_here"] sp_Lshingles) : Cal P w K mg base 2 "_law_compared" ["_law_first", "_law_second", "_law_length_here"] sp_Lcompared := by
  obtain ⟨f_Lshingles, fd_Lshingles, G_Lshingles, m_Lshingles, k_Lshingles, b_Lshingles⟩ := c_Lshingles
  refine F.cal fun f fd F => ok_def (N := N_Lcompared) (wb := w_Lcompared) F sc_Lcompared har_Lcompared (by decide) (fun cdv A outer s0 H E hr => ?_) pure_Lcompared
  have hu1 := hu_of hr
  have hu64 := hr.units
  have hu65 := hu65_of hr
  exact ⟨_, (sss_cons (ss_set (i := 3) sc_Lcompared.nd rfl (Or.inr rfl) (se_call G_Lshingles (hr.mono (by omega)) (by rfl) m_Lshingles k_Lshingles b_Lshingles (sa_cons (se_var (pv 0)) (sa_cons (se_var (pv 2)) sa_nil)))) (sss_cons (ss_set (i := 4) sc_Lcompared.nd rfl (Or.inl rfl) (se_call G_Lshingles (hr.mono (by omega)) (by rfl) m_Lshingles k_Lshingles b_Lshingles (sa_cons (se_var (pv 1)) (sa_cons (se_var (pv 2)) sa_nil)))) (sss_cons (ss_set (i := 5) sc_Lcompared.nd rfl (Or.inl rfl) (se_callB call_lenA dLen_ok (by rfl) z_len (by decide +kernel) (sa_cons (se_lc (own := [("_law_row", 6)]) rfl sc_Lcompared.nd (si_list (se_var (pv 4))) (blkOk_by (own := [("_law_row", 6)]) (N := N_Lcompared) (sc := defScope s_Lcompared) (by decide +kernel)) (by intro _ _ _ _ _; exact ⟨_, (sg_name (i := 6) sc_Lcompared.nd rfl (Or.inl rfl))⟩) (by decide) (by intro _ _ _ _ _; exact ⟨_, (sts_one (st_cmp (op_inD hu65) dInD_ok (se_var (pv 6)) (se_var (pv 3)) (by rfl)))⟩) (by intro _ _ _ _ _; exact ⟨_, (se_var (pv 6))⟩)) sa_nil))) (sss_one (ss_ret (se_tup (sa_cons (se_var (pv 5)) (sa_cons (se_op op_sub dSub_ok (se_op op_addA dAdd_ok (se_callB call_lenA dLen_ok (by rfl) z_len (by decide +kernel) (sa_cons (se_var (pv 3)) sa_nil)) (se_callB call_lenA dLen_ok (by rfl) z_len (by decide +kernel) (sa_cons (se_var (pv 4)) sa_nil))) (se_var (pv 5))) sa_nil))))))))⟩
theorem ok_Lalike (F : FunAt K mg "_law_alike" s_Lalike ["_law_first", "_law_second", "_law_length_here", "_law_share_here"]) (c_Lcompared : Cal P w K mg base 2 "_law_compared" ["_law_first", "_law_second", "_law_length_here"] sp_Lcompared) : Cal P w K mg base 3 "_law_alike" ["_law_first", "_law_second", "_law_length_here", "_law_share_here"] sp_Lalike := by
  obtain ⟨f_Lcompared, fd_Lcompared, G_Lcompared, m_Lcompared, k_Lcompared, b_Lcompared⟩ := c_Lcompared
  refine F.cal fun f fd F => ok_def (N := N_Lalike) (wb := w_Lalike) F sc_Lalike har_Lalike (by decide) (fun cdv A outer s0 H E hr => ?_) pure_Lalike
  have hu1 := hu_of hr
  have hu64 := hr.units
  have hu65 := hu65_of hr
  exact ⟨_, (sss_cons (ss_asg (se_call G_Lcompared (hr.mono (by omega)) (by rfl) m_Lcompared k_Lcompared b_Lcompared (sa_cons (se_var (pv 0)) (sa_cons (se_var (pv 1)) (sa_cons (se_var (pv 2)) sa_nil)))) (sg_tup (n := 2) rfl (sgs_cons (sg_name (i := 4) sc_Lalike.nd rfl (Or.inl rfl)) (sgs_cons (sg_name (i := 5) sc_Lalike.nd rfl (Or.inl rfl)) sgs_nil)))) (sss_one (ss_ret (se_cmp op_le dLe_ok (se_op op_mulA dMul_ok (se_ix (se_var (pv 3)) se_int (fun _ _ => rfl)) (se_var (pv 5))) (se_op op_mulA dMul_ok (se_ix (se_var (pv 3)) se_int (fun _ _ => rfl)) (se_var (pv 4))) (nomark _)))))⟩
theorem ok_Lnear (F : FunAt K mg "_law_near" s_Lnear ["_law_documents_here", "_law_length_here", "_law_share_here"]) (z_len : mg "len" = none) (z_range : mg "range" = none) (c_Lalike : Cal P w K mg base 3 "_law_alike" ["_law_first", "_law_second", "_law_length_here", "_law_share_here"] sp_Lalike) : Cal P w K mg base 4 "_law_near" ["_law_documents_here", "_law_length_here", "_law_share_here"] sp_Lnear := by
  obtain ⟨f_Lalike, fd_Lalike, G_Lalike, m_Lalike, k_Lalike, b_Lalike⟩ := c_Lalike
  refine F.cal fun f fd F => ok_def (N := N_Lnear) (wb := w_Lnear) F sc_Lnear har_Lnear (by decide) (fun cdv A outer s0 H E hr => ?_) pure_Lnear
  have hu1 := hu_of hr
  have hu64 := hr.units
  have hu65 := hu65_of hr
  exact ⟨_, (sss_cons (ss_set (i := 3) sc_Lnear.nd rfl (Or.inl rfl) (se_lst sa_nil)) (sss_cons (ss_for PassesOwn.never rfl (si_list (se_var (pv 0))) (sg_name (i := 4) sc_Lnear.nd rfl (Or.inr rfl)) (sss_one (ss_append (pv 3) (se_lc (own := [("_law_k", 5)]) rfl sc_Lnear.nd (si_range1 (by rfl) z_range (sa_cons (se_callB call_lenA dLen_ok (by rfl) z_len (by decide +kernel) (sa_cons (se_var (pv 0)) sa_nil)) sa_nil)) (blkOk_by (own := [("_law_k", 5)]) (N := N_Lnear) (sc := defScope s_Lnear) (by decide +kernel)) (by intro _ _ _ _ _; exact ⟨_, (sg_name (i := 5) sc_Lnear.nd rfl (Or.inl rfl))⟩) (by decide) (by intro _ _ _ _ _; exact ⟨_, (sts_one (st_val (se_call G_Lalike (hr.mono (by omega)) (by rfl) m_Lalike k_Lalike b_Lalike (sa_cons (se_ix (se_var (pv 4)) se_int (fun _ _ => rfl)) (sa_cons (se_ix (se_ix (se_var (pv 0)) (se_var (pv 5)) (fun _ _ => rfl)) se_int (fun _ _ => rfl)) (sa_cons (se_var (pv 1)) (sa_cons (se_var (pv 2)) sa_nil)))))))⟩) (by intro _ _ _ _ _; exact ⟨_, (se_var (pv 5))⟩))))) (sss_one (ss_ret (se_var (pv 3))))))⟩
theorem ok_Ldistances (F : FunAt K mg "_law_distances" s_Ldistances ["_law_near_here", "_law_start"]) (z_len : mg "len" = none) (z_range : mg "range" = none) (z_min : mg "min" = none) : Cal P w K mg base 1 "_law_distances" ["_law_near_here", "_law_start"] sp_Ldistances := by
  refine F.cal fun f fd F => ok_def (N := N_Ldistances) (wb := w_Ldistances) F sc_Ldistances har_Ldistances (by decide) (fun cdv A outer s0 H E hr => ?_) pure_Ldistances
  have hu1 := hu_of hr
  have hu64 := hr.units
  have hu65 := hu65_of hr
  exact ⟨_, (sss_cons (ss_setLc (i := 2) (own := [("_law_k", 4)]) rfl sc_Ldistances.nd rfl rfl (sw_true rfl rfl rfl (by decide +kernel)) (si_range1 (by rfl) z_range (sa_cons (se_callB call_lenA dLen_ok (by rfl) z_len (by decide +kernel) (sa_cons (se_var (pv 0)) sa_nil)) sa_nil)) (blkOk_by (own := [("_law_k", 4)]) (N := N_Ldistances) (sc := defScope s_Ldistances) (by decide +kernel)) (by intro _ _ _ _ _; exact ⟨_, (sg_name (i := 4) sc_Ldistances.nd rfl (Or.inl rfl))⟩) (by decide) (by intro _ _ _ _ _; exact ⟨_, sts_nil⟩) (by intro _ _ _ _ _; exact ⟨_, se_int⟩)) (sss_cons (ss_setIx (i := 2) (pv 2) (se_var (pv 1)) se_int) (sss_cons (ss_for PassesOwn.never rfl (si_range1 (by rfl) z_range (sa_cons (se_callB call_lenA dLen_ok (by rfl) z_len (by decide +kernel) (sa_cons (se_var (pv 0)) sa_nil)) sa_nil)) (sg_name (i := 3) sc_Ldistances.nd rfl (Or.inl rfl)) (sss_one (ss_for PassesOwn.never rfl (si_range1 (by rfl) z_range (sa_cons (se_callB call_lenA dLen_ok (by rfl) z_len (by decide +kernel) (sa_cons (se_var (pv 0)) sa_nil)) sa_nil)) (sg_name (i := 4) sc_Ldistances.nd rfl (Or.inl rfl)) (sss_one (ss_for PassesOwn.never rfl (si_list (se_ix (se_var (pv 0)) (se_var (pv 4)) (fun _ _ => rfl))) (sg_name (i := 5) sc_Ldistances.nd rfl (Or.inl rfl)) (sss_one (ss_setIx (i := 2) (pv 2) (se_var (pv 4)) (se_callB (call_min2 rfl) dMin2_ok (by rfl) z_min (by decide +kernel) (sa_cons (se_ix (se_var (pv 2)) (se_var (pv 4)) (fun _ _ => rfl)) (sa_cons (se_op op_addA dAdd_ok (se_ix (se_var (pv 2)) (se_var (pv 5)) (fun _ _ => rfl)) se_int) sa_nil)))))))))) (sss_one (ss_ret (se_var (pv 2)))))))⟩
theorem ok_shingles (F : FunAt K mg "shingles" s_shingles ["pieces", "length"]) (z_len : mg "len" = none) (z_max : mg "max" = none) (z_range : mg "range" = none) (z_tuple : mg "tuple" = none) : Cal P w K mg base 1 "shingles" ["pieces", "length"] sp_shingles := by
  refine F.cal fun f fd F => ok_def (N := N_shingles) (wb := w_shingles) F sc_shingles har_shingles (by decide) (fun cdv A outer s0 H E hr => ?_) pure_shingles
  have hu1 := hu_of hr
  have hu64 := hr.units
  have hu65 := hu65_of hr
  exact ⟨_, (sss_cons (ss_set (i := 2) sc_shingles.nd rfl (Or.inl rfl) se_dnewT) (sss_cons (ss_set (i := 3) sc_shingles.nd rfl (Or.inl rfl) (se_lst sa_nil)) (sss_cons (ss_for PassesOwn.never rfl (si_list (se_var (pv 0))) (sg_name (i := 4) sc_shingles.nd rfl (Or.inl rfl)) (sss_one (ss_for PassesOwn.never rfl (si_range1 (by rfl) z_range (sa_cons (se_callB (call_max2 rfl) dMax2_ok (by rfl) z_max (by decide +kernel) (sa_cons se_int (sa_cons (se_op op_addA dAdd_ok (se_op op_sub dSub_ok (se_callB call_lenA dLen_ok (by rfl) z_len (by decide +kernel) (sa_cons (se_var (pv 4)) sa_nil)) (se_var (pv 1))) se_int) sa_nil))) sa_nil)) (sg_name (i := 5) sc_shingles.nd rfl (Or.inl rfl)) (sss_cons (ss_set (i := 6) sc_shingles.nd rfl (Or.inl rfl) (se_callTy call_tuple_of dTupL_ok (by rfl) z_tuple (by decide +kernel) (sa_cons (se_slice (se_var (pv 4)) (so_some (se_var (pv 5))) (so_some (se_op op_addA dAdd_ok (se_var (pv 5)) (se_var (pv 1))))) sa_nil))) (sss_one (ss_if (st_dnotin hu1 (se_var (pv 6)) (se_var (pv 2)) (by rfl)) (sss_cons (ss_dput (i := 2) hu1 (pv 2) (se_var (pv 6)) se_bl) (sss_one (ss_append (pv 3) (se_var (pv 6))))) sss_nil)))))) (sss_one (ss_ret (se_var (pv 3)))))))⟩
theorem ok_meeting_pairs (F : FunAt K mg "meeting_pairs" s_meeting_pairs ["documents", "length"]) (z_list : mg "list" = none) (z_sorted : mg "sorted" = none) (c_shingles : Cal P w K mg base 1 "shingles" ["pieces", "length"] sp_shingles) : Cal P w K mg base 2 "meeting_pairs" ["documents", "length"] sp_meeting_pairs := by
  obtain ⟨f_shingles, fd_shingles, G_shingles, m_shingles, k_shingles, b_shingles⟩ := c_shingles
  refine F.cal fun f fd F => ok_def (N := N_meeting_pairs) (wb := w_meeting_pairs) F sc_meeting_pairs har_meeting_pairs (by decide) (fun cdv A outer s0 H E hr => ?_) pure_meeting_pairs
  have hu1 := hu_of hr
  have hu64 := hr.units
  have hu65 := hu65_of hr
  exact ⟨_, (sss_ofM (sms_cons (sm_newT (i := 2) sc_meeting_pairs.nd rfl (Or.inl rfl)) (sms_cons (sm_of (ss_set (i := 3) sc_meeting_pairs.nd rfl (Or.inl rfl) se_dnewT)) (sms_cons (sm_for PassesOwn.never rfl (si_list (se_var (pv 0))) (sg_tup (n := 2) rfl (sgs_cons (sg_name (i := 4) sc_meeting_pairs.nd rfl (Or.inl rfl)) (sgs_cons (sg_name (i := 5) sc_meeting_pairs.nd rfl (Or.inl rfl)) sgs_nil))) (sms_one (sm_for PassesOwn.never rfl (si_list (se_call G_shingles (hr.mono (by omega)) (by rfl) m_shingles k_shingles b_shingles (sa_cons (se_var (pv 5)) (sa_cons (se_var (pv 1)) sa_nil)))) (sg_name (i := 6) sc_meeting_pairs.nd rfl (Or.inl rfl)) (sms_cons (sm_sdset hu1 (j := 7) sc_meeting_pairs.nd rfl (Or.inl rfl) (pv 2) (se_var (pv 6))) (sms_cons (sm_forA PassesOwn.never rfl (pv 7) (sg_name (i := 8) sc_meeting_pairs.nd rfl (Or.inl rfl)) (sms_one (sm_of (ss_dput (i := 3) hu1 (pv 3) (se_tup (sa_cons (se_var (pv 8)) (sa_cons (se_var (pv 4)) sa_nil))) se_bl)))) (sms_one (sm_app (pv 7) (se_var (pv 4))))))))) (sms_one (sm_of (ss_ret (se_callB cr_sortedPO dSortP_ok (by rfl) z_sorted (by decide +kernel) (sa_cons (se_listKeys rfl (se_var (pv 3)) (by rfl) z_list (by decide +kernel)) sa_nil)))))))))⟩
theorem ok_compare (F : FunAt K mg "compare" s_compare ["first", "second", "length", "over", "under"]) (z_len : mg "len" = none) (c_shingles : Cal P w K mg base 1 "shingles" ["pieces", "length"] sp_shingles) : Cal P w K mg base 2 "compare" ["first", "second", "length", "over", "under"] sp_compare := by
  obtain ⟨f_shingles, fd_shingles, G_shingles, m_shingles, k_shingles, b_shingles⟩ := c_shingles
  refine F.cal fun f fd F => ok_def (N := N_compare) (wb := w_compare) F sc_compare har_compare (by decide) (fun cdv A outer s0 H E hr => ?_) pure_compare
  have hu1 := hu_of hr
  have hu64 := hr.units
  have hu65 := hu65_of hr
  exact ⟨_, (sss_cons (ss_set (i := 5) sc_compare.nd rfl (Or.inl rfl) (se_call G_shingles (hr.mono (by omega)) (by rfl) m_shingles k_shingles b_shingles (sa_cons (se_var (pv 0)) (sa_cons (se_var (pv 2)) sa_nil)))) (sss_cons (ss_set (i := 6) sc_compare.nd rfl (Or.inr rfl) (se_dc .t (own := [("shingle", 10)]) (Nat.lt_of_succ_lt hu1) rfl sc_compare.nd (si_list (se_var (pv 5))) (blkOk_by (own := [("shingle", 10)]) (N := N_compare) (sc := defScope s_compare) (by decide +kernel)) (by intro _ _ _ _ _; exact ⟨_, (sg_name (i := 10) sc_compare.nd rfl (Or.inl rfl))⟩) (by decide) (by intro _ _ _ _ _; exact ⟨_, sts_nil⟩) (by intro _ _ _ _ _; exact ⟨_, (se_var (pv 10))⟩) (by intro _ _ _ _ _; exact ⟨_, se_bl⟩))) (sss_cons (ss_set (i := 7) sc_compare.nd rfl (Or.inl rfl) (se_call G_shingles (hr.mono (by omega)) (by rfl) m_shingles k_shingles b_shingles (sa_cons (se_var (pv 1)) (sa_cons (se_var (pv 2)) sa_nil)))) (sss_cons (ss_set (i := 8) sc_compare.nd rfl (Or.inl rfl) (se_callB call_lenA dLen_ok (by rfl) z_len (by decide +kernel) (sa_cons (se_lc (own := [("shingle", 10)]) rfl sc_compare.nd (si_list (se_var (pv 7))) (blkOk_by (own := [("shingle", 10)]) (N := N_compare) (sc := defScope s_compare) (by decide +kernel)) (by intro _ _ _ _ _; exact ⟨_, (sg_name (i := 10) sc_compare.nd rfl (Or.inl rfl))⟩) (by decide) (by intro _ _ _ _ _; exact ⟨_, (sts_one (st_din hu1 (se_var (pv 10)) (se_var (pv 6)) (by rfl)))⟩) (by intro _ _ _ _ _; exact ⟨_, (se_var (pv 10))⟩)) sa_nil))) (sss_cons (ss_set (i := 9) sc_compare.nd rfl (Or.inl rfl) (se_op op_sub dSub_ok (se_op op_addA dAdd_ok (se_callB call_lenA dLen_ok (by rfl) z_len (by decide +kernel) (sa_cons (se_var (pv 5)) sa_nil)) (se_callB call_lenA dLen_ok (by rfl) z_len (by decide +kernel) (sa_cons (se_var (pv 7)) sa_nil))) (se_var (pv 8)))) (sss_one (ss_ret (se_tup (sa_cons (se_cmp op_le dLe_ok (se_op op_mulA dMul_ok (se_var (pv 3)) (se_var (pv 9))) (se_op op_mulA dMul_ok (se_var (pv 4)) (se_var (pv 8))) (nomark _)) (sa_cons (se_var (pv 8)) (sa_cons (se_var (pv 9)) sa_nil)))))))))))⟩
theorem ok_alike_pairs (F : FunAt K mg "alike_pairs" s_alike_pairs ["documents", "length", "over", "under"]) (c_meeting_pairs : Cal P w K mg base 2 "meeting_pairs" ["documents", "length"] sp_meeting_pairs) (c_compare : Cal P w K mg base 2 "compare" ["first", "second", "length", "over", "under"] sp_compare) : Cal P w K mg base 3 "alike_pairs" ["documents", "length", "over", "under"] sp_alike_pairs := by
  obtain ⟨f_meeting_pairs, fd_meeting_pairs, G_meeting_pairs, m_meeting_pairs, k_meeting_pairs, b_meeting_pairs⟩ := c_meeting_pairs
  obtain ⟨f_compare, fd_compare, G_compare, m_compare, k_compare, b_compare⟩ := c_compare
  refine F.cal fun f fd F => ok_def (N := N_alike_pairs) (wb := w_alike_pairs) F sc_alike_pairs har_alike_pairs (by decide) (fun cdv A outer s0 H E hr => ?_) pure_alike_pairs
  have hu1 := hu_of hr
  have hu64 := hr.units
  have hu65 := hu65_of hr
  exact ⟨_, (sss_cons (ss_setDc .k (i := 4) (own := [("number", 11), ("pieces", 12)]) (Nat.lt_of_succ_lt hu1) rfl sc_alike_pairs.nd rfl rfl (sw_trueD rfl rfl rfl (by decide +kernel)) (si_list (se_var (pv 0))) (blkOk_by (own := [("number", 11), ("pieces", 12)]) (N := N_alike_pairs) (sc := defScope s_alike_pairs) (by decide +kernel)) (by intro _ _ _ _ _; exact ⟨_, (sg_tup (n := 2) rfl (sgs_cons (sg_name (i := 11) sc_alike_pairs.nd rfl (Or.inl rfl)) (sgs_cons (sg_name (i := 12) sc_alike_pairs.nd rfl (Or.inl rfl)) sgs_nil)))⟩) (by decide) (by intro _ _ _ _ _; exact ⟨_, sts_nil⟩) (by intro _ _ _ _ _; exact ⟨_, (se_var (pv 11))⟩) (by intro _ _ _ _ _; exact ⟨_, (se_var (pv 12))⟩)) (sss_cons (ss_set (i := 5) sc_alike_pairs.nd rfl (Or.inl rfl) (se_lst sa_nil)) (sss_cons (ss_for PassesOwn.never rfl (si_list (se_call G_meeting_pairs (hr.mono (by omega)) (by rfl) m_meeting_pairs k_meeting_pairs b_meeting_pairs (sa_cons (se_var (pv 0)) (sa_cons (se_var (pv 1)) sa_nil)))) (sg_tup (n := 2) rfl (sgs_cons (sg_name (i := 6) sc_alike_pairs.nd rfl (Or.inl rfl)) (sgs_cons (sg_name (i := 7) sc_alike_pairs.nd rfl (Or.inl rfl)) sgs_nil))) (sss_cons (ss_asg (se_call G_compare (hr.mono (by omega)) (by rfl) m_compare k_compare b_compare (sa_cons (se_dget hu1 (se_var (pv 4)) (se_var (pv 6)) (fun _ _ => rfl)) (sa_cons (se_dget hu1 (se_var (pv 4)) (se_var (pv 7)) (fun _ _ => rfl)) (sa_cons (se_var (pv 1)) (sa_cons (se_var (pv 2)) (sa_cons (se_var (pv 3)) sa_nil)))))) (sg_tup (n := 3) rfl (sgs_cons (sg_name (i := 8) sc_alike_pairs.nd rfl (Or.inl rfl)) (sgs_cons (sg_name (i := 9) sc_alike_pairs.nd rfl (Or.inl rfl)) (sgs_cons (sg_name (i := 10) sc_alike_pairs.nd rfl (Or.inl rfl)) sgs_nil))))) (sss_one (ss_if (st_val (se_var (pv 8))) (sss_one (ss_append (pv 5) (se_tup (sa_cons (se_var (pv 6)) (sa_cons (se_var (pv 7)) (sa_cons (se_var (pv 9)) (sa_cons (se_var (pv 10)) sa_nil))))))) sss_nil)))) (sss_one (ss_ret (se_var (pv 5)))))))⟩
theorem ok_u_neighbours (F : FunAt K mg "_neighbours" s_u_neighbours ["documents", "length", "over", "under"]) (z_sorted : mg "sorted" = none) (c_alike_pairs : Cal P w K mg base 3 "alike_pairs" ["documents", "length", "over", "under"] sp_alike_pairs) : Cal P w K mg base 4 "_neighbours" ["documents", "length", "over", "under"] sp_u_neighbours := by
  obtain ⟨f_alike_pairs, fd_alike_pairs, G_alike_pairs, m_alike_pairs, k_alike_pairs, b_alike_pairs⟩ := c_alike_pairs
  refine F.cal fun f fd F => ok_def (N := N_u_neighbours) (wb := w_u_neighbours) F sc_u_neighbours har_u_neighbours (by decide) (fun cdv A outer s0 H E hr => ?_) pure_u_neighbours
  have hu1 := hu_of hr
  have hu64 := hr.units
  have hu65 := hu65_of hr
  exact ⟨_, (sss_ofM (sms_cons (sm_setDcNLc (i := 4) (own := [("number", 9), ("pieces", 10)]) (Nat.lt_of_succ_lt hu1) rfl sc_u_neighbours.nd rfl (Or.inr rfl) (by rfl) (si_list (se_var (pv 0))) (blkOk_by (own := [("number", 9), ("pieces", 10)]) (N := N_u_neighbours) (sc := defScope s_u_neighbours) (by decide +kernel)) (by intro _ _ _ _ _; exact ⟨_, (sg_tup (n := 2) rfl (sgs_cons (sg_name (i := 9) sc_u_neighbours.nd rfl (Or.inl rfl)) (sgs_cons (sg_name (i := 10) sc_u_neighbours.nd rfl (Or.inl rfl)) sgs_nil)))⟩) (by decide) (by intro _ _ _ _ _; exact ⟨_, (se_var (pv 9))⟩)) (sms_cons (sm_for PassesOwn.never rfl (si_list (se_call G_alike_pairs (hr.mono (by omega)) (by rfl) m_alike_pairs k_alike_pairs b_alike_pairs (sa_cons (se_var (pv 0)) (sa_cons (se_var (pv 1)) (sa_cons (se_var (pv 2)) (sa_cons (se_var (pv 3)) sa_nil)))))) (sg_tup (n := 4) rfl (sgs_cons (sg_name (i := 5) sc_u_neighbours.nd rfl (Or.inl rfl)) (sgs_cons (sg_name (i := 6) sc_u_neighbours.nd rfl (Or.inl rfl)) (sgs_cons (sg_name (i := 7) sc_u_neighbours.nd rfl (Or.inl rfl)) (sgs_cons (sg_name (i := 8) sc_u_neighbours.nd rfl (Or.inl rfl)) sgs_nil))))) (sms_cons (sm_qapp (sq_kx (j := 5) hu1 (sq_var (pv 4)) (pv 5) (fun _ _ => rfl)) (se_var (pv 6))) (sms_one (sm_qapp (sq_kx (j := 6) hu1 (sq_var (pv 4)) (pv 6) (fun _ _ => rfl)) (se_var (pv 5)))))) (sms_fzKO 4 (sms_one (sm_of (ss_ret (se_dc .k (own := [("number", 9)]) (Nat.lt_of_succ_lt hu1) rfl sc_u_neighbours.nd (si_keys (pv 4)) (blkOk_by (own := [("number", 9)]) (N := N_u_neighbours) (sc := defScope s_u_neighbours) (by decide +kernel)) (by intro _ _ _ _ _; exact ⟨_, (sg_name (i := 9) sc_u_neighbours.nd rfl (Or.inl rfl))⟩) (by decide) (by intro _ _ _ _ _; exact ⟨_, sts_nil⟩) (by intro _ _ _ _ _; exact ⟨_, (se_var (pv 9))⟩) (by intro _ _ _ _ _; exact ⟨_, (se_callB cr_sortedI dSortI_ok (by rfl) z_sorted (by decide +kernel) (sa_cons (se_dget hu1 (se_var (pv 4)) (se_var (pv 9)) (fun _ _ => rfl)) sa_nil))⟩)))))))))⟩
theorem ok_u_distances (F : FunAt K mg "_distances" s_u_distances ["table", "start"]) (z_len : mg "len" = none) : Cal P w K mg base 1 "_distances" ["table", "start"] sp_u_distances := by
  refine F.cal fun f fd F => ok_def (N := N_u_distances) (wb := w_u_distances) F sc_u_distances har_u_distances (by decide) (fun cdv A outer s0 H E hr => ?_) pure_u_distances
  have hu1 := hu_of hr
  have hu64 := hr.units
  have hu65 := hu65_of hr
  exact ⟨_, (sss_cons (ss_set (i := 2) sc_u_distances.nd rfl (Or.inl rfl) (se_dlit1 (i := 1) (c := 0) (pv 1) (se_int (W := fun _ _ _ _ => False)).1)) (sss_cons (ss_set (i := 3) sc_u_distances.nd rfl (Or.inl rfl) (se_lst (sa_cons (se_var (pv 1)) sa_nil))) (sss_cons (ss_set (i := 4) sc_u_distances.nd rfl (Or.inl rfl) se_int) (sss_cons (ss_while PassesOwn.never (st_cmp op_lt dLt_ok (se_var (pv 4)) (se_callB call_lenA dLen_ok (by rfl) z_len (by decide +kernel) (sa_cons (se_var (pv 3)) sa_nil)) (nomark _)) (sss_cons (ss_set (i := 5) sc_u_distances.nd rfl (Or.inl rfl) (se_ix (se_var (pv 3)) (se_var (pv 4)) (fun _ _ => rfl))) (sss_cons (ss_aug (i := 4) sc_u_distances.nd rfl (Or.inl rfl) se_int ip_addA dIAdd_ok) (sss_one (ss_for PassesOwn.never rfl (si_list (se_dget hu1 (se_var (pv 0)) (se_var (pv 5)) (fun _ _ => rfl))) (sg_name (i := 6) sc_u_distances.nd rfl (Or.inl rfl)) (sss_one (ss_if (st_dnotin hu1 (se_var (pv 6)) (se_var (pv 2)) (by rfl)) (sss_cons (ss_dput (i := 2) hu1 (pv 2) (se_var (pv 6)) (se_op op_addA dAdd_ok (se_dget hu1 (se_var (pv 2)) (se_var (pv 5)) (fun _ _ => rfl)) se_int)) (sss_one (ss_append (pv 3) (se_var (pv 6))))) sss_nil))))))) (sss_one (ss_ret (se_var (pv 2))))))))⟩
theorem ok_told_chain (F : FunAt K mg "told_chain" s_told_chain ["documents", "length", "over", "under", "number"]) (z_min : mg "min" = none) (c_u_neighbours : Cal P w K mg base 4 "_neighbours" ["documents", "length", "over", "under"] sp_u_neighbours) (c_u_distances : Cal P w K mg base 1 "_distances" ["table", "start"] sp_u_distances) : Cal P w K mg base 5 "told_chain" ["documents", "length", "over", "under", "number"] sp_told_chain := by
  obtain ⟨f_u_neighbours, fd_u_neighbours, G_u_neighbours, m_u_neighbours, k_u_neighbours, b_u_neighbours⟩ := c_u_neighbours
  obtain ⟨f_u_distances, fd_u_distances, G_u_distances, m_u_distances, k_u_distances, b_u_distances⟩ := c_u_distances
  refine F.cal fun f fd F => ok_def (N := N_told_chain) (wb := w_told_chain) F sc_told_chain har_told_chain (by decide) (fun cdv A outer s0 H E hr => ?_) pure_told_chain
  have hu1 := hu_of hr
  have hu64 := hr.units
  have hu65 := hu65_of hr
  exact ⟨_, (sss_cons (ss_set (i := 5) sc_told_chain.nd rfl (Or.inl rfl) (se_call G_u_neighbours (hr.mono (by omega)) (by rfl) m_u_neighbours k_u_neighbours b_u_neighbours (sa_cons (se_var (pv 0)) (sa_cons (se_var (pv 1)) (sa_cons (se_var (pv 2)) (sa_cons (se_var (pv 3)) sa_nil)))))) (sss_fz 5 (sss_cons (ss_set (i := 6) sc_told_chain.nd rfl (Or.inl rfl) (se_call G_u_distances (hr.mono (by omega)) (by rfl) m_u_distances k_u_distances b_u_distances (sa_cons (se_var (pv 5)) (sa_cons (se_var (pv 4)) sa_nil)))) (sss_cons (ss_set (i := 7) sc_told_chain.nd rfl (Or.inl rfl) (se_callB (cr_min rfl) dMinL_ok (by rfl) z_min (by decide +kernel) (sa_cons (se_lc (own := [("other", 12)]) rfl sc_told_chain.nd (si_keys (pv 6)) (blkOk_by (own := [("other", 12)]) (N := N_told_chain) (sc := defScope s_told_chain) (by decide +kernel)) (by intro _ _ _ _ _; exact ⟨_, (sg_name (i := 12) sc_told_chain.nd rfl (Or.inl rfl))⟩) (by decide) (by intro _ _ _ _ _; exact ⟨_, sts_nil⟩) (by intro _ _ _ _ _; exact ⟨_, (se_var (pv 12))⟩)) sa_nil))) (sss_cons (ss_set (i := 8) sc_told_chain.nd rfl (Or.inr rfl) (se_call G_u_distances (hr.mono (by omega)) (by rfl) m_u_distances k_u_distances b_u_distances (sa_cons (se_var (pv 5)) (sa_cons (se_var (pv 7)) sa_nil)))) (sss_fz 8 (sss_cons (ss_set (i := 9) sc_told_chain.nd rfl (Or.inl rfl) (se_lst (sa_cons (se_var (pv 4)) sa_nil))) (sss_cons (ss_while PassesOwn.never (st_cmp (op_neA hu64) dNe_ok (se_ix (se_var (pv 9)) (se_neg se_int) (fun _ _ => rfl)) (se_var (pv 7)) (nomark _)) (sss_cons (ss_set (i := 10) sc_told_chain.nd rfl (Or.inr rfl) (se_ix (se_var (pv 9)) (se_neg se_int) (fun _ _ => rfl))) (sss_cons (ss_setLc (i := 11) (own := [("other", 12)]) rfl sc_told_chain.nd rfl rfl (sw_true rfl rfl rfl (by decide +kernel)) (si_list (se_dget hu1 (se_var (pv 5)) (se_var (pv 10)) (fun _ _ => rfl))) (blkOk_by (own := [("other", 12)]) (N := N_told_chain) (sc := defScope s_told_chain) (by decide +kernel)) (by intro _ _ _ _ _; exact ⟨_, (sg_name (i := 12) sc_told_chain.nd rfl (Or.inl rfl))⟩) (by decide) (by intro _ _ _ _ _; exact ⟨_, (sts_one (st_cmp op_lt dLt_ok (se_dget hu1 (se_var (pv 8)) (se_var (pv 12)) (fun _ _ => rfl)) (se_dget hu1 (se_var (pv 8)) (se_var (pv 10)) (fun _ _ => rfl)) (nomark _)))⟩) (by intro _ _ _ _ _; exact ⟨_, (se_var (pv 12))⟩)) (sss_one (ss_append (pv 9) (se_ix (se_var (pv 11)) se_int (fun _ _ => rfl))))))) (sss_one (ss_ret (se_var (pv 9))))))))))))⟩
theorem ok_Lcell (F : FunAt K mg "_law_cell" s_Lcell ["_law_script", "_law_k"]) (z_len : mg "len" = none) : Cal P w K mg base 1 "_law_cell" ["_law_script", "_law_k"] sp_Lcell := by
  refine F.cal fun f fd F => ok_def (N := N_Lcell) (wb := w_Lcell) F sc_Lcell har_Lcell (by decide) (fun cdv A outer s0 H E hr => ?_) pure_Lcell
  have hu1 := hu_of hr
  have hu64 := hr.units
  have hu65 := hu65_of hr
  exact ⟨_, (sss_cons (ss_if (st_cmp op_lt dLt_ok (se_var (pv 1)) (se_callB call_lenA dLen_ok (by rfl) z_len (by decide +kernel) (sa_cons (se_var (pv 0)) sa_nil)) (nomark _)) (sss_one (ss_ret (se_ix (se_var (pv 0)) (se_var (pv 1)) (fun _ _ => rfl)))) sss_nil) (sss_one (ss_ret se_int)))⟩
theorem ok_Ldigits (F : FunAt K mg "_law_digits" s_Ldigits ["_law_script", "_law_first", "_law_last"]) (z_range : mg "range" = none) (z_int : mg "int" = none) (c_Lcell : Cal P w K mg base 1 "_law_cell" ["_law_script", "_law_k"] sp_Lcell) : Cal P w K mg base 2 "_law_digits" ["_law_script", "_law_first", "_law_last"] sp_Ldigits := by
  obtain ⟨f_Lcell, fd_Lcell, G_Lcell, m_Lcell, k_Lcell, b_Lcell⟩ := c_Lcell
  refine F.cal fun f fd F => ok_def (N := N_Ldigits) (wb := w_Ldigits) F sc_Ldigits har_Ldigits (by decide) (fun cdv A outer s0 H E hr => ?_) pure_Ldigits
  have hu1 := hu_of hr
  have hu64 := hr.units
  have hu65 := hu65_of hr
  exact ⟨_, (sss_cons (ss_set (i := 3) sc_Ldigits.nd rfl (Or.inl rfl) (se_lst sa_nil)) (sss_cons (ss_for PassesOwn.never rfl (si_range2 (by rfl) z_range (sa_cons (se_var (pv 1)) (sa_cons (se_var (pv 2)) sa_nil))) (sg_name (i := 4) sc_Ldigits.nd rfl (Or.inl rfl)) (sss_cons (ss_set (i := 5) sc_Ldigits.nd rfl (Or.inl rfl) (se_call G_Lcell (hr.mono (by omega)) (by rfl) m_Lcell k_Lcell b_Lcell (sa_cons (se_var (pv 0)) (sa_cons (se_var (pv 4)) sa_nil)))) (sss_cons (ss_if (st_cmp op_lt dLt_ok (se_var (pv 5)) se_int (nomark _)) (sss_one (ss_set (i := 5) sc_Ldigits.nd rfl (Or.inl rfl) (se_op op_sub dSub_ok se_int (se_op op_mulA dMul_ok se_int (se_var (pv 5)))))) sss_nil) (sss_one (ss_if (st_cmp op_ge dGe_ok (se_var (pv 5)) (se_op op_pow dPow_ok se_int se_int) (nomark _)) (sss_one (ss_for PassesOwn.never rfl (si_range1 (by rfl) z_range (sa_cons se_int sa_nil)) (sg_name (i := 6) sc_Ldigits.nd rfl (Or.inl rfl)) (sss_one (ss_if (st_cmp op_gt dGt_ok (se_var (pv 5)) se_int (nomark _)) (sss_cons (ss_append (pv 3) (se_op op_mod dMod_ok (se_callTy call_int1 dInt_ok (by rfl) z_int (by decide +kernel) (sa_cons (se_var (pv 5)) sa_nil)) se_int)) (sss_one (ss_set (i := 5) sc_Ldigits.nd rfl (Or.inl rfl) (se_op op_fdiv dFdiv_ok (se_var (pv 5)) se_int)))) sss_nil)))) (sss_cons (ss_set (i := 7) sc_Ldigits.nd rfl (Or.inl rfl) (se_op op_mod dMod_ok (se_callTy call_int1 dInt_ok (by rfl) z_int (by decide +kernel) (sa_cons (se_op op_addA dAdd_ok (se_op op_addA dAdd_ok (se_op op_mulA dMul_ok (se_var (pv 5)) se_int) (se_op op_mulA dMul_ok (se_var (pv 4)) se_int)) se_int) sa_nil)) se_int)) (sss_one (ss_for PassesOwn.never rfl (si_range1 (by rfl) z_range (sa_cons se_int sa_nil)) (sg_name (i := 6) sc_Ldigits.nd rfl (Or.inl rfl)) (sss_cons (ss_set (i := 7) sc_Ldigits.nd rfl (Or.inl rfl) (se_op op_mod dMod_ok (se_callTy call_int1 dInt_ok (by rfl) z_int (by decide +kernel) (sa_cons (se_op op_addA dAdd_ok (se_op op_addA dAdd_ok (se_op op_mulA dMul_ok (se_var (pv 7)) se_int) (se_op op_mulA dMul_ok se_int (se_var (pv 6)))) se_int) sa_nil)) se_int)) (sss_one (ss_append (pv 3) (se_op op_mod dMod_ok (se_callTy call_int1 dInt_ok (by rfl) z_int (by decide +kernel) (sa_cons (se_op op_fdiv dFdiv_ok (se_var (pv 7)) se_int) sa_nil)) se_int)))))))))))) (sss_one (ss_ret (se_var (pv 3))))))⟩
theorem ok_Lsame (F : FunAt K mg "_law_same" s_Lsame ["_law_actual", "_law_due"]) (z_tuple : mg "tuple" = none) (z_isinstance : mg "isinstance" = none) (z_list : mg "list" = none) (z_len : mg "len" = none) (z_range : mg "range" = none) (z_bool : mg "bool" = none) (z_str : mg "str" = none) (z_int : mg "int" = none) : ∀ n : Nat, Cal P w K mg base (n + 0) "_law_same" ["_law_actual", "_law_due"] (sp_Lsame n)
  | 0 => F.none _ rfl
  | n + 1 => by
    obtain ⟨f_self, fd_self, G_self, m_self, k_self, b_self⟩ := ok_Lsame F z_tuple z_isinstance z_list z_len z_range z_bool z_str z_int n
    refine F.cal fun f fd F => ok_def (N := N_Lsame) (wb := w_Lsame (sp_Lsame n)) F sc_Lsame (har_Lsame (n + 1)) (by decide) (fun cdv A outer s0 H E hr => ?_) (pure_Lsame n)
    have hu1 := hu_of hr
    have hu64 := hr.units
    have hu65 := hu65_of hr
    exact ⟨_, (sss_cons (ss_if (SW.st (sw_or (st_val (se_callB call_isi dIsi_ok (by rfl) z_isinstance (by decide +kernel) (sa_cons (se_var (pv 1)) (sa_cons (se_ty (by rfl) z_list (by decide +kernel)) sa_nil)))) (sw_or1 (st_val (se_callB call_isi dIsi_ok (by rfl) z_isinstance (by decide +kernel) (sa_cons (se_var (pv 1)) (sa_cons (se_ty (by rfl) z_tuple (by decide +kernel)) sa_nil))))))) (sss_cons (ss_if (SW.st (sw_or (st_cmp (op_neA hu64) dNe_ok (se_callB call_isi dIsi_ok (by rfl) z_isinstance (by decide +kernel) (sa_cons (se_var (pv 1)) (sa_cons (se_ty (by rfl) z_list (by decide +kernel)) sa_nil))) (se_callB call_isi dIsi_ok (by rfl) z_isinstance (by decide +kernel) (sa_cons (se_var (pv 0)) (sa_cons (se_ty (by rfl) z_list (by decide +kernel)) sa_nil))) (nomark _)) (sw_or1 (st_cmp (op_neA hu64) dNe_ok (se_callB call_isi dIsi_ok (by rfl) z_isinstance (by decide +kernel) (sa_cons (se_var (pv 1)) (sa_cons (se_ty (by rfl) z_tuple (by decide +kernel)) sa_nil))) (se_callB call_isi dIsi_ok (by rfl) z_isinstance (by decide +kernel) (sa_cons (se_var (pv 0)) (sa_cons (se_ty (by rfl) z_tuple (by decide +kernel)) sa_nil))) (nomark _))))) (sss_one (ss_ret se_bl)) sss_nil) (sss_cons (ss_if (st_cmp (op_neA hu64) dNe_ok (se_callB call_lenA dLen_ok (by rfl) z_len (by decide +kernel) (sa_cons (se_var (pv 0)) sa_nil)) (se_callB call_lenA dLen_ok (by rfl) z_len (by decide +kernel) (sa_cons (se_var (pv 1)) sa_nil)) (nomark _)) (sss_one (ss_ret se_bl)) sss_nil) (sss_cons (ss_for PassesOwn.never rfl (si_range1 (by rfl) z_range (sa_cons (se_callB call_lenA dLen_ok (by rfl) z_len (by decide +kernel) (sa_cons (se_var (pv 1)) sa_nil)) sa_nil)) (sg_name (i := 2) sc_Lsame.nd rfl (Or.inl rfl)) (sss_one (ss_if (st_not (st_val (se_call G_self (hr.mono (by omega)) (by rfl) m_self k_self b_self (sa_cons (se_ix (se_var (pv 0)) (se_var (pv 2)) (fun _ _ => rfl)) (sa_cons (se_ix (se_var (pv 1)) (se_var (pv 2)) (fun _ _ => rfl)) sa_nil))))) (sss_one (ss_ret se_bl)) sss_nil))) (sss_one (ss_ret se_bl))))) sss_nil) (sss_cons (ss_if (st_cmp op_isN dIs_ok (se_var (pv 1)) se_non (nomark _)) (sss_one (ss_ret (se_cmp op_isN dIs_ok (se_var (pv 0)) se_non (nomark _)))) sss_nil) (sss_cons (ss_if (st_val (se_callB call_isi dIsi_ok (by rfl) z_isinstance (by decide +kernel) (sa_cons (se_var (pv 1)) (sa_cons (se_ty (by rfl) z_bool (by decide +kernel)) sa_nil)))) (sss_one (ss_ret (se_and (se_callB call_isi dIsi_ok (by rfl) z_isinstance (by decide +kernel) (sa_cons (se_var (pv 0)) (sa_cons (se_ty (by rfl) z_bool (by decide +kernel)) sa_nil))) (se_one (se_cmp (op_eqA hu64) dEq_ok (se_var (pv 0)) (se_var (pv 1)) (nomark _)))))) sss_nil) (sss_cons (ss_if (st_val (se_callB call_isi dIsi_ok (by rfl) z_isinstance (by decide +kernel) (sa_cons (se_var (pv 1)) (sa_cons (se_ty (by rfl) z_str (by decide +kernel)) sa_nil)))) (sss_one (ss_ret (se_and (se_callB call_isi dIsi_ok (by rfl) z_isinstance (by decide +kernel) (sa_cons (se_var (pv 0)) (sa_cons (se_ty (by rfl) z_str (by decide +kernel)) sa_nil))) (se_one (se_cmp (op_eqA hu64) dEq_ok (se_var (pv 0)) (se_var (pv 1)) (nomark _)))))) sss_nil) (sss_one (ss_ret (se_and (se_callB call_isi dIsi_ok (by rfl) z_isinstance (by decide +kernel) (sa_cons (se_var (pv 0)) (sa_cons (se_ty (by rfl) z_int (by decide +kernel)) sa_nil))) (se_and (se_not (se_callB call_isi dIsi_ok (by rfl) z_isinstance (by decide +kernel) (sa_cons (se_var (pv 0)) (sa_cons (se_ty (by rfl) z_bool (by decide +kernel)) sa_nil)))) (se_one (se_cmp (op_eqA hu64) dEq_ok (se_var (pv 0)) (se_var (pv 1)) (nomark _)))))))))))⟩
theorem fn_law {f : Addr} {fd : FuncData} (F : Fun K "law" "law" s_law f fd) (z_len : mg "len" = none) (z_range : mg "range" = none) (c_Ldigits : Cal P w K mg base 2 "_law_digits" ["_law_script", "_law_first", "_law_last"] sp_Ldigits) (c_Lstock : Cal P w K mg base 4 "_law_stock" ["_law_box", "_law_many"] sp_Lstock) (c_Ldocuments : Cal P w K mg base 4 "_law_documents" ["_law_box", "_law_stock_here"] sp_Ldocuments) (c_Llength : Cal P w K mg base 2 "_law_length" ["_law_box"] sp_Llength) (c_Lshare : Cal P w K mg base 2 "_law_share" ["_law_box"] sp_Lshare) (c_Lcopied : Cal P w K mg base 1 "_law_copied" ["_law_documents_here"] sp_Lcopied) (c_Lnear : Cal P w K mg base 4 "_law_near" ["_law_documents_here", "_law_length_here", "_law_share_here"] sp_Lnear) (c_Ldraw : Cal P w K mg base 1 "_law_draw" ["_law_box", "_law_many"] sp_Ldraw) (c_Ldistances : Cal P w K mg base 1 "_law_distances" ["_law_near_here", "_law_start"] sp_Ldistances) (c_told_chain : Cal P w K mg base 5 "told_chain" ["documents", "length", "over", "under", "number"] sp_told_chain) (c_Lsame : Cal P w K mg base 6 "_law_same" ["_law_actual", "_law_due"] (sp_Lsame 6)) : FnOk P w K mg base CX0 7 f fd ["_law_script"] (spOf K sp_law) := by
  obtain ⟨f_Ldigits, fd_Ldigits, G_Ldigits, m_Ldigits, k_Ldigits, b_Ldigits⟩ := c_Ldigits
  obtain ⟨f_Lstock, fd_Lstock, G_Lstock, m_Lstock, k_Lstock, b_Lstock⟩ := c_Lstock
  obtain ⟨f_Ldocuments, fd_Ldocuments, G_Ldocuments, m_Ldocuments, k_Ldocuments, b_Ldocuments⟩ := c_Ldocuments
  obtain ⟨f_Llength, fd_Llength, G_Llength, m_Llength, k_Llength, b_Llength⟩ := c_Llength
  obtain ⟨f_Lshare, fd_Lshare, G_Lshare, m_Lshare, k_Lshare, b_Lshare⟩ := c_Lshare
  obtain ⟨f_Lcopied, fd_Lcopied, G_Lcopied, m_Lcopied, k_Lcopied, b_Lcopied⟩ := c_Lcopied
  obtain ⟨f_Lnear, fd_Lnear, G_Lnear, m_Lnear, k_Lnear, b_Lnear⟩ := c_Lnear
  obtain ⟨f_Ldraw, fd_Ldraw, G_Ldraw, m_Ldraw, k_Ldraw, b_Ldraw⟩ := c_Ldraw
  obtain ⟨f_Ldistances, fd_Ldistances, G_Ldistances, m_Ldistances, k_Ldistances, b_Ldistances⟩ := c_Ldistances
  obtain ⟨f_told_chain, fd_told_chain, G_told_chain, m_told_chain, k_told_chain, b_told_chain⟩ := c_told_chain
  obtain ⟨f_Lsame, fd_Lsame, G_Lsame, m_Lsame, k_Lsame, b_Lsame⟩ := c_Lsame
  refine ok_def (N := N_law) (wb := w_law) F sc_law har_law (by decide) (fun cdv A outer s0 H E hr => ?_) pure_law
  have hu1 := hu_of hr
  have hu64 := hr.units
  have hu65 := hu65_of hr
  exact ⟨_, (sss_cons (ss_set (i := 1) sc_law.nd rfl (Or.inl rfl) (se_lst (sa_cons (se_call G_Ldigits (hr.mono (by omega)) (by rfl) m_Ldigits k_Ldigits b_Ldigits (sa_cons (se_var (pv 0)) (sa_cons se_int (sa_cons se_int sa_nil)))) (sa_cons se_int sa_nil)))) (sss_cons (ss_set (i := 2) sc_law.nd rfl (Or.inl rfl) (se_call G_Lstock (hr.mono (by omega)) (by rfl) m_Lstock k_Lstock b_Lstock (sa_cons (se_var (pv 1)) (sa_cons se_int sa_nil)))) (sss_cons (ss_set (i := 3) sc_law.nd rfl (Or.inr rfl) (se_call G_Ldocuments (hr.mono (by omega)) (by rfl) m_Ldocuments k_Ldocuments b_Ldocuments (sa_cons (se_var (pv 1)) (sa_cons (se_var (pv 2)) sa_nil)))) (sss_fz 3 (sss_cons (ss_set (i := 4) sc_law.nd rfl (Or.inl rfl) (se_call G_Llength (hr.mono (by omega)) (by rfl) m_Llength k_Llength b_Llength (sa_cons (se_var (pv 1)) sa_nil))) (sss_cons (ss_set (i := 5) sc_law.nd rfl (Or.inl rfl) (se_call G_Lshare (hr.mono (by omega)) (by rfl) m_Lshare k_Lshare b_Lshare (sa_cons (se_var (pv 1)) sa_nil))) (sss_cons (ss_set (i := 6) sc_law.nd rfl (Or.inl rfl) (se_call G_Lcopied (hr.mono (by omega)) (by rfl) m_Lcopied k_Lcopied b_Lcopied (sa_cons (se_var (pv 3)) sa_nil))) (sss_fz 6 (sss_cons (ss_if (st_cmp (op_eqA hu64) dEq_ok (se_callB call_lenA dLen_ok (by rfl) z_len (by decide +kernel) (sa_cons (se_var (pv 3)) sa_nil)) se_int (nomark _)) (sss_one (ss_ret se_bl)) sss_nil) (sss_cons (ss_set (i := 7) sc_law.nd rfl (Or.inl rfl) (se_call G_Lnear (hr.mono (by omega)) (by rfl) m_Lnear k_Lnear b_Lnear (sa_cons (se_var (pv 3)) (sa_cons (se_var (pv 4)) (sa_cons (se_var (pv 5)) sa_nil))))) (sss_fz 7 (sss_cons (ss_set (i := 8) sc_law.nd rfl (Or.inl rfl) (se_call G_Ldraw (hr.mono (by omega)) (by rfl) m_Ldraw k_Ldraw b_Ldraw (sa_cons (se_var (pv 1)) (sa_cons (se_callB call_lenA dLen_ok (by rfl) z_len (by decide +kernel) (sa_cons (se_var (pv 3)) sa_nil)) sa_nil)))) (sss_cons (ss_set (i := 9) sc_law.nd rfl (Or.inr rfl) (se_call G_Ldistances (hr.mono (by omega)) (by rfl) m_Ldistances k_Ldistances b_Ldistances (sa_cons (se_var (pv 7)) (sa_cons (se_var (pv 8)) sa_nil)))) (sss_cons (ss_set (i := 10) sc_law.nd rfl (Or.inl rfl) (se_ix (se_lc (own := [("_law_k", 17)]) rfl sc_law.nd (si_range1 (by rfl) z_range (sa_cons (se_callB call_lenA dLen_ok (by rfl) z_len (by decide +kernel) (sa_cons (se_var (pv 3)) sa_nil)) sa_nil)) (blkOk_by (own := [("_law_k", 17)]) (N := N_law) (sc := defScope s_law) (by decide +kernel)) (by intro _ _ _ _ _; exact ⟨_, (sg_name (i := 17) sc_law.nd rfl (Or.inl rfl))⟩) (by decide) (by intro _ _ _ _ _; exact ⟨_, (sts_one (st_cmp op_lt dLt_ok (se_ix (se_var (pv 9)) (se_var (pv 17)) (fun _ _ => rfl)) se_int (nomark _)))⟩) (by intro _ _ _ _ _; exact ⟨_, (se_var (pv 17))⟩)) se_int (fun _ _ => rfl))) (sss_cons (ss_set (i := 11) sc_law.nd rfl (Or.inr rfl) (se_call G_Ldistances (hr.mono (by omega)) (by rfl) m_Ldistances k_Ldistances b_Ldistances (sa_cons (se_var (pv 7)) (sa_cons (se_var (pv 10)) sa_nil)))) (sss_cons (ss_set (i := 12) sc_law.nd rfl (Or.inr rfl) (se_lst (sa_cons (se_var (pv 8)) sa_nil))) (sss_cons (ss_for PassesOwn.never rfl (si_range1 (by rfl) z_range (sa_cons (se_ix (se_var (pv 11)) (se_var (pv 8)) (fun _ _ => rfl)) sa_nil)) (sg_name (i := 13) sc_law.nd rfl (Or.inl rfl)) (sss_cons (ss_setLc (i := 14) (own := [("_law_k", 17)]) rfl sc_law.nd rfl rfl (sw_true rfl rfl rfl (by decide +kernel)) (si_list (se_ix (se_var (pv 7)) (se_ix (se_var (pv 12)) (se_neg se_int) (fun _ _ => rfl)) (fun _ _ => rfl))) (blkOk_by (own := [("_law_k", 17)]) (N := N_law) (sc := defScope s_law) (by decide +kernel)) (by intro _ _ _ _ _; exact ⟨_, (sg_name (i := 17) sc_law.nd rfl (Or.inl rfl))⟩) (by decide) (by intro _ _ _ _ _; exact ⟨_, (sts_one (st_cmp (op_eqA hu64) dEq_ok (se_ix (se_var (pv 11)) (se_var (pv 17)) (fun _ _ => rfl)) (se_op op_sub dSub_ok (se_ix (se_var (pv 11)) (se_ix (se_var (pv 12)) (se_neg se_int) (fun _ _ => rfl)) (fun _ _ => rfl)) se_int) (nomark _)))⟩) (by intro _ _ _ _ _; exact ⟨_, (se_var (pv 17))⟩)) (sss_one (ss_append (pv 12) (se_ix (se_var (pv 14)) se_int (fun _ _ => rfl)))))) (sss_cons (ss_set (i := 15) sc_law.nd rfl (Or.inl rfl) (se_ix (se_ix (se_var (pv 3)) (se_var (pv 8)) (fun _ _ => rfl)) se_int (fun _ _ => rfl))) (sss_cons (ss_set (i := 16) sc_law.nd rfl (Or.inl rfl) (se_call G_told_chain (hr.mono (by omega)) (by rfl) m_told_chain k_told_chain b_told_chain (sa_cons (se_var (pv 6)) (sa_cons (se_var (pv 4)) (sa_cons (se_ix (se_var (pv 5)) se_int (fun _ _ => rfl)) (sa_cons (se_ix (se_var (pv 5)) se_int (fun _ _ => rfl)) (sa_cons (se_var (pv 15)) sa_nil))))))) (sss_cons (ss_if (SW.st (sw_or (st_not (st_val (se_call G_Lsame (hr.mono (by omega)) (by rfl) m_Lsame k_Lsame b_Lsame (sa_cons (se_var (pv 16)) (sa_cons (se_lc (own := [("_law_k", 17)]) rfl sc_law.nd (si_list (se_var (pv 12))) (blkOk_by (own := [("_law_k", 17)]) (N := N_law) (sc := defScope s_law) (by decide +kernel)) (by intro _ _ _ _ _; exact ⟨_, (sg_name (i := 17) sc_law.nd rfl (Or.inl rfl))⟩) (by decide) (by intro _ _ _ _ _; exact ⟨_, sts_nil⟩) (by intro _ _ _ _ _; exact ⟨_, (se_ix (se_ix (se_var (pv 3)) (se_var (pv 17)) (fun _ _ => rfl)) se_int (fun _ _ => rfl))⟩)) sa_nil))))) (sw_or1 (st_not (st_val (se_call G_Lsame (hr.mono (by omega)) (by rfl) m_Lsame k_Lsame b_Lsame (sa_cons (se_var (pv 6)) (sa_cons (se_var (pv 3)) sa_nil)))))))) (sss_one (ss_ret se_bl)) sss_nil) (sss_one (ss_ret (se_and (se_cmp (op_eqA hu64) dEq_ok (se_ix (se_var (pv 16)) se_int (fun _ _ => rfl)) (se_var (pv 15)) (nomark _)) (se_one (se_cmp (op_eqA hu64) dEq_ok (se_ix (se_var (pv 16)) (se_neg se_int) (fun _ _ => rfl)) (se_ix (se_ix (se_var (pv 3)) (se_var (pv 10)) (fun _ _ => rfl)) se_int (fun _ _ => rfl)) (nomark _))))))))))))))))))))))))))⟩
end
structure Tops (K : PySem.W.Frag) (mg : Str → Option Value) : Prop where
  f_Ldraw : FunAt K mg "_law_draw" s_Ldraw ["_law_box", "_law_many"]
  f_Lsolid : FunAt K mg "_law_solid" s_Lsolid ["_law_box"]
  f_Lword : FunAt K mg "_law_word" s_Lword ["_law_box", "_law_many"]
  f_Lstock : FunAt K mg "_law_stock" s_Lstock ["_law_box", "_law_many"]
  f_Lpiece : FunAt K mg "_law_piece" s_Lpiece ["_law_box", "_law_stock_here"]
  f_Lpieces : FunAt K mg "_law_pieces" s_Lpieces ["_law_box", "_law_stock_here"]
  f_Ldocuments : FunAt K mg "_law_documents" s_Ldocuments ["_law_box", "_law_stock_here"]
  f_Llength : FunAt K mg "_law_length" s_Llength ["_law_box"]
  f_Lshare : FunAt K mg "_law_share" s_Lshare ["_law_box"]
  f_Lcopied : FunAt K mg "_law_copied" s_Lcopied ["_law_documents_here"]
  f_Lshingles : FunAt K mg "_law_shingles" s_Lshingles ["_law_pieces_here", "_law_length_here"]
  f_Lcompared : FunAt K mg "_law_compared" s_Lcompared ["_law_first", "_law_second", "_law_length_here"]
  f_Lalike : FunAt K mg "_law_alike" s_Lalike ["_law_first", "_law_second", "_law_length_here", "_law_share_here"]
  f_Lnear : FunAt K mg "_law_near" s_Lnear ["_law_documents_here", "_law_length_here", "_law_share_here"]
  f_Ldistances : FunAt K mg "_law_distances" s_Ldistances ["_law_near_here", "_law_start"]
  f_shingles : FunAt K mg "shingles" s_shingles ["pieces", "length"]
  f_meeting_pairs : FunAt K mg "meeting_pairs" s_meeting_pairs ["documents", "length"]
  f_compare : FunAt K mg "compare" s_compare ["first", "second", "length", "over", "under"]
  f_alike_pairs : FunAt K mg "alike_pairs" s_alike_pairs ["documents", "length", "over", "under"]
  f_u_neighbours : FunAt K mg "_neighbours" s_u_neighbours ["documents", "length", "over", "under"]
  f_u_distances : FunAt K mg "_distances" s_u_distances ["table", "start"]
  f_told_chain : FunAt K mg "told_chain" s_told_chain ["documents", "length", "over", "under", "number"]
  f_Lcell : FunAt K mg "_law_cell" s_Lcell ["_law_script", "_law_k"]
  f_Ldigits : FunAt K mg "_law_digits" s_Ldigits ["_law_script", "_law_first", "_law_last"]
  f_Lsame : FunAt K mg "_law_same" s_Lsame ["_law_actual", "_law_due"]
  z_len : mg "len" = none
  z_int : mg "int" = none
  z_range : mg "range" = none
  z_list : mg "list" = none
  z_max : mg "max" = none
  z_min : mg "min" = none
  z_tuple : mg "tuple" = none
  z_sorted : mg "sorted" = none
  z_isinstance : mg "isinstance" = none
  z_bool : mg "bool" = none
  z_str : mg "str" = none
theorem law_ok {P : Program} {w : World} {K : PySem.W.Frag} {mg : Str → Option Value} {base : Heap} (T : Tops K mg) {f : Addr} {fd : FuncData} (F : Fun K "law" "law" s_law f fd) : FnOk P w K mg base CX0 7 f fd ["_law_script"] (spOf K sp_law) := by
  have c_Ldraw := ok_Ldraw (P := P) (w := w) (base := base) T.f_Ldraw T.z_len T.z_int
  have c_Lsolid := ok_Lsolid (P := P) (w := w) (base := base) T.f_Lsolid c_Ldraw
  have c_Lword := ok_Lword (P := P) (w := w) (base := base) T.f_Lword T.z_range c_Lsolid
  have c_Lstock := ok_Lstock (P := P) (w := w) (base := base) T.f_Lstock T.z_range c_Lword c_Ldraw c_Lsolid
  have c_Lpiece := ok_Lpiece (P := P) (w := w) (base := base) T.f_Lpiece T.z_len T.z_range c_Ldraw
  have c_Lpieces := ok_Lpieces (P := P) (w := w) (base := base) T.f_Lpieces T.z_range c_Ldraw c_Lpiece
  have c_Ldocuments := ok_Ldocuments (P := P) (w := w) (base := base) T.f_Ldocuments T.z_range T.z_list T.z_len c_Ldraw c_Lpieces
  have c_Llength := ok_Llength (P := P) (w := w) (base := base) T.f_Llength c_Ldraw
  have c_Lshare := ok_Lshare (P := P) (w := w) (base := base) T.f_Lshare c_Ldraw
  have c_Lcopied := ok_Lcopied (P := P) (w := w) (base := base) T.f_Lcopied T.z_list
  have c_Lshingles := ok_Lshingles (P := P) (w := w) (base := base) T.f_Lshingles T.z_len T.z_max T.z_range
  have c_Lcompared := ok_Lcompared (P := P) (w := w) (base := base) T.f_Lcompared T.z_len c_Lshingles
  have c_Lalike := ok_Lalike (P := P) (w := w) (base := base) T.f_Lalike c_Lcompared
  have c_Lnear := ok_Lnear (P := P) (w := w) (base := base) T.f_Lnear T.z_len T.z_range c_Lalike
  have c_Ldistances := ok_Ldistances (P := P) (w := w) (base := base) T.f_Ldistances T.z_len T.z_range T.z_min
  have c_shingles := ok_shingles (P := P) (w := w) (base := base) T.f_shingles T.z_len T.z_max T.z_range T.z_tuple
  have c_meeting_pairs := ok_meeting_pairs (P := P) (w := w) (base := base) T.f_meeting_pairs T.z_list T.z_sorted c_shingles
  have c_compare := ok_compare (P := P) (w := w) (base := base) T.f_compare T.z_len c_shingles
  have c_alike_pairs := ok_alike_pairs (P := P) (w := w) (base := base) T.f_alike_pairs c_meeting_pairs c_compare
  have c_u_neighbours := ok_u_neighbours (P := P) (w := w) (base := base) T.f_u_neighbours T.z_sorted c_alike_pairs
  have c_u_distances := ok_u_distances (P := P) (w := w) (base := base) T.f_u_distances T.z_len
  have c_told_chain := ok_told_chain (P := P) (w := w) (base := base) T.f_told_chain T.z_min c_u_neighbours c_u_distances
  have c_Lcell := ok_Lcell (P := P) (w := w) (base := base) T.f_Lcell T.z_len
  have c_Ldigits := ok_Ldigits (P := P) (w := w) (base := base) T.f_Ldigits T.z_range T.z_int c_Lcell
  have c_Lsame : Cal P w K mg base 6 "_law_same" ["_law_actual", "_law_due"] (sp_Lsame 6) := ok_Lsame (P := P) (w := w) (base := base) T.f_Lsame T.z_tuple T.z_isinstance T.z_list T.z_len T.z_range T.z_bool T.z_str T.z_int 6
  exact fn_law (P := P) (w := w) (base := base) F T.z_len T.z_range c_Ldigits c_Lstock c_Ldocuments c_Llength c_Lshare c_Lcopied c_Lnear c_Ldraw c_Ldistances c_told_chain c_Lsame
theorem all_mk {l : PySem.W.OpenLaw} {w : World} {K : PySem.W.Frag} {h : Heap} {mg : Str → Option Value} {fa : Addr} (X : K.In h) (G : h.Ns mainGlobals mg) (hfa : mg "law" = some (.ref fa))
    {f0 : Addr} {od0 an0 : Option Addr} {sl0 : Array (Option Value)} {oc0 kV0 dc0 pm0 cd0 ct0 : Value}
    (a0 : PySem.W.nsIn K mainGlobals "_law_draw" = some (some (.ref f0))) (l0 : K.lookup f0 = some ⟨oc0, od0, .func (PySem.W.fnOf "_law_draw" "_law_draw" (defArgs s_Ldraw) (defBody s_Ldraw) (defScope s_Ldraw) .none kV0 dc0 pm0 an0 cd0 ct0), sl0⟩) (e0 : PySem.W.codeIn K cd0 "_law_draw" = true) (k0 : PySem.W.keepIn K (.ref f0) = true)
    {f1 : Addr} {od1 an1 : Option Addr} {sl1 : Array (Option Value)} {oc1 kV1 dc1 pm1 cd1 ct1 : Value}
    (a1 : PySem.W.nsIn K mainGlobals "_law_solid" = some (some (.ref f1))) (l1 : K.lookup f1 = some ⟨oc1, od1, .func (PySem.W.fnOf "_law_solid" "_law_solid" (defArgs s_Lsolid) (defBody s_Lsolid) (defScope s_Lsolid) .none kV1 dc1 pm1 an1 cd1 ct1), sl1⟩) (e1 : PySem.W.codeIn K cd1 "_law_solid" = true) (k1 : PySem.W.keepIn K (.ref f1) = true)
    {f2 : Addr} {od2 an2 : Option Addr} {sl2 : Array (Option Value)} {oc2 kV2 dc2 pm2 cd2 ct2 : Value}
    (a2 : PySem.W.nsIn K mainGlobals "_law_word" = some (some (.ref f2))) (l2 : K.lookup f2 = some ⟨oc2, od2, .func (PySem.W.fnOf "_law_word" "_law_word" (defArgs s_Lword) (defBody s_Lword) (defScope s_Lword) .none kV2 dc2 pm2 an2 cd2 ct2), sl2⟩) (e2 : PySem.W.codeIn K cd2 "_law_word" = true) (k2 : PySem.W.keepIn K (.ref f2) = true)
    {f3 : Addr} {od3 an3 : Option Addr} {sl3 : Array (Option Value)} {oc3 kV3 dc3 pm3 cd3 ct3 : Value}
    (a3 : PySem.W.nsIn K mainGlobals "_law_stock" = some (some (.ref f3))) (l3 : K.lookup f3 = some ⟨oc3, od3, .func (PySem.W.fnOf "_law_stock" "_law_stock" (defArgs s_Lstock) (defBody s_Lstock) (defScope s_Lstock) .none kV3 dc3 pm3 an3 cd3 ct3), sl3⟩) (e3 : PySem.W.codeIn K cd3 "_law_stock" = true) (k3 : PySem.W.keepIn K (.ref f3) = true)
    {f4 : Addr} {od4 an4 : Option Addr} {sl4 : Array (Option Value)} {oc4 kV4 dc4 pm4 cd4 ct4 : Value}
    (a4 : PySem.W.nsIn K mainGlobals "_law_piece" = some (some (.ref f4))) (l4 : K.lookup f4 = some ⟨oc4, od4, .func (PySem.W.fnOf "_law_piece" "_law_piece" (defArgs s_Lpiece) (defBody s_Lpiece) (defScope s_Lpiece) .none kV4 dc4 pm4 an4 cd4 ct4), sl4⟩) (e4 : PySem.W.codeIn K cd4 "_law_piece" = true) (k4 : PySem.W.keepIn K (.ref f4) = true)
    {f5 : Addr} {od5 an5 : Option Addr} {sl5 : Array (Option Value)} {oc5 kV5 dc5 pm5 cd5 ct5 : Value}
    (a5 : PySem.W.nsIn K mainGlobals "_law_pieces" = some (some (.ref f5))) (l5 : K.lookup f5 = some ⟨oc5, od5, .func (PySem.W.fnOf "_law_pieces" "_law_pieces" (defArgs s_Lpieces) (defBody s_Lpieces) (defScope s_Lpieces) .none kV5 dc5 pm5 an5 cd5 ct5), sl5⟩) (e5 : PySem.W.codeIn K cd5 "_law_pieces" = true) (k5 : PySem.W.keepIn K (.ref f5) = true)
    {f6 : Addr} {od6 an6 : Option Addr} {sl6 : Array (Option Value)} {oc6 kV6 dc6 pm6 cd6 ct6 : Value}
    (a6 : PySem.W.nsIn K mainGlobals "_law_documents" = some (some (.ref f6))) (l6 : K.lookup f6 = some ⟨oc6, od6, .func (PySem.W.fnOf "_law_documents" "_law_documents" (defArgs s_Ldocuments) (defBody s_Ldocuments) (defScope s_Ldocuments) .none kV6 dc6 pm6 an6 cd6 ct6), sl6⟩) (e6 : PySem.W.codeIn K cd6 "_law_documents" = true) (k6 : PySem.W.keepIn K (.ref f6) = true)
    {f7 : Addr} {od7 an7 : Option Addr} {sl7 : Array (Option Value)} {oc7 kV7 dc7 pm7 cd7 ct7 : Value}
    (a7 : PySem.W.nsIn K mainGlobals "_law_length" = some (some (.ref f7))) (l7 : K.lookup f7 = some ⟨oc7, od7, .func (PySem.W.fnOf "_law_length" "_law_length" (defArgs s_Llength) (defBody s_Llength) (defScope s_Llength) .none kV7 dc7 pm7 an7 cd7 ct7), sl7⟩) (e7 : PySem.W.codeIn K cd7 "_law_length" = true) (k7 : PySem.W.keepIn K (.ref f7) = true)
    {f8 : Addr} {od8 an8 : Option Addr} {sl8 : Array (Option Value)} {oc8 kV8 dc8 pm8 cd8 ct8 : Value}
    (a8 : PySem.W.nsIn K mainGlobals "_law_share" = some (some (.ref f8))) (l8 : K.lookup f8 = some ⟨oc8, od8, .func (PySem.W.fnOf "_law_share" "_law_share" (defArgs s_Lshare) (defBody s_Lshare) (defScope s_Lshare) .none kV8 dc8 pm8 an8 cd8 ct8), sl8⟩) (e8 : PySem.W.codeIn K cd8 "_law_share" = true) (k8 : PySem.W.keepIn K (.ref f8) = true)
    {f9 : Addr} {od9 an9 : Option Addr} {sl9 : Array (Option Value)} {oc9 kV9 dc9 pm9 cd9 ct9 : Value}
    (a9 : PySem.W.nsIn K mainGlobals "_law_copied" = some (some (.ref f9))) (l9 : K.lookup f9 = some ⟨oc9, od9, .func (PySem.W.fnOf "_law_copied" "_law_copied" (defArgs s_Lcopied) (defBody s_Lcopied) (defScope s_Lcopied) .none kV9 dc9 pm9 an9 cd9 ct9), sl9⟩) (e9 : PySem.W.codeIn K cd9 "_law_copied" = true) (k9 : PySem.W.keepIn K (.ref f9) = true)
    {f10 : Addr} {od10 an10 : Option Addr} {sl10 : Array (Option Value)} {oc10 kV10 dc10 pm10 cd10 ct10 : Value}
    (a10 : PySem.W.nsIn K mainGlobals "_law_shingles" = some (some (.ref f10))) (l10 : K.lookup f10 = some ⟨oc10, od10, .func (PySem.W.fnOf "_law_shingles" "_law_shingles" (defArgs s_Lshingles) (defBody s_Lshingles) (defScope s_Lshingles) .none kV10 dc10 pm10 an10 cd10 ct10), sl10⟩) (e10 : PySem.W.codeIn K cd10 "_law_shingles" = true) (k10 : PySem.W.keepIn K (.ref f10) = true)
    {f11 : Addr} {od11 an11 : Option Addr} {sl11 : Array (Option Value)} {oc11 kV11 dc11 pm11 cd11 ct11 : Value}
    (a11 : PySem.W.nsIn K mainGlobals "_law_compared" = some (some (.ref f11))) (l11 : K.lookup f11 = some ⟨oc11, od11, .func (PySem.W.fnOf "_law_compared" "_law_compared" (defArgs s_Lcompared) (defBody s_Lcompared) (defScope s_Lcompared) .none kV11 dc11 pm11 an11 cd11 ct11), sl11⟩) (e11 : PySem.W.codeIn K cd11 "_law_compared" = true) (k11 : PySem.W.keepIn K (.ref f11) = true)
    {f12 : Addr} {od12 an12 : Option Addr} {sl12 : Array (Option Value)} {oc12 kV12 dc12 pm12 cd12 ct12 : Value}
    (a12 : PySem.W.nsIn K mainGlobals "_law_alike" = some (some (.ref f12))) (l12 : K.lookup f12 = some ⟨oc12, od12, .func (PySem.W.fnOf "_law_alike" "_law_alike" (defArgs s_Lalike) (defBody s_Lalike) (defScope s_Lalike) .none kV12 dc12 pm12 an12 cd12 ct12), sl12⟩) (e12 : PySem.W.codeIn K cd12 "_law_alike" = true) (k12 : PySem.W.keepIn K (.ref f12) = true)
    {f13 : Addr} {od13 an13 : Option Addr} {sl13 : Array (Option Value)} {oc13 kV13 dc13 pm13 cd13 ct13 : Value}
    (a13 : PySem.W.nsIn K mainGlobals "_law_near" = some (some (.ref f13))) (l13 : K.lookup f13 = some ⟨oc13, od13, .func (PySem.W.fnOf "_law_near" "_law_near" (defArgs s_Lnear) (defBody s_Lnear) (defScope s_Lnear) .none kV13 dc13 pm13 an13 cd13 ct13), sl13⟩) (e13 : PySem.W.codeIn K cd13 "_law_near" = true) (k13 : PySem.W.keepIn K (.ref f13) = true)
    {f14 : Addr} {od14 an14 : Option Addr} {sl14 : Array (Option Value)} {oc14 kV14 dc14 pm14 cd14 ct14 : Value}
    (a14 : PySem.W.nsIn K mainGlobals "_law_distances" = some (some (.ref f14))) (l14 : K.lookup f14 = some ⟨oc14, od14, .func (PySem.W.fnOf "_law_distances" "_law_distances" (defArgs s_Ldistances) (defBody s_Ldistances) (defScope s_Ldistances) .none kV14 dc14 pm14 an14 cd14 ct14), sl14⟩) (e14 : PySem.W.codeIn K cd14 "_law_distances" = true) (k14 : PySem.W.keepIn K (.ref f14) = true)
    {f15 : Addr} {od15 an15 : Option Addr} {sl15 : Array (Option Value)} {oc15 kV15 dc15 pm15 cd15 ct15 : Value}
    (a15 : PySem.W.nsIn K mainGlobals "shingles" = some (some (.ref f15))) (l15 : K.lookup f15 = some ⟨oc15, od15, .func (PySem.W.fnOf "shingles" "shingles" (defArgs s_shingles) (defBody s_shingles) (defScope s_shingles) .none kV15 dc15 pm15 an15 cd15 ct15), sl15⟩) (e15 : PySem.W.codeIn K cd15 "shingles" = true) (k15 : PySem.W.keepIn K (.ref f15) = true)
    {f16 : Addr} {od16 an16 : Option Addr} {sl16 : Array (Option Value)} {oc16 kV16 dc16 pm16 cd16 ct16 : Value}
    (a16 : PySem.W.nsIn K mainGlobals "meeting_pairs" = some (some (.ref f16))) (l16 : K.lookup f16 = some ⟨oc16, od16, .func (PySem.W.fnOf "meeting_pairs" "meeting_pairs" (defArgs s_meeting_pairs) (defBody s_meeting_pairs) (defScope s_meeting_pairs) .none kV16 dc16 pm16 an16 cd16 ct16), sl16⟩) (e16 : PySem.W.codeIn K cd16 "meeting_pairs" = true) (k16 : PySem.W.keepIn K (.ref f16) = true)
    {f17 : Addr} {od17 an17 : Option Addr} {sl17 : Array (Option Value)} {oc17 kV17 dc17 pm17 cd17 ct17 : Value}
    (a17 : PySem.W.nsIn K mainGlobals "compare" = some (some (.ref f17))) (l17 : K.lookup f17 = some ⟨oc17, od17, .func (PySem.W.fnOf "compare" "compare" (defArgs s_compare) (defBody s_compare) (defScope s_compare) .none kV17 dc17 pm17 an17 cd17 ct17), sl17⟩) (e17 : PySem.W.codeIn K cd17 "compare" = true) (k17 : PySem.W.keepIn K (.ref f17) = true)
    {f18 : Addr} {od18 an18 : Option Addr} {sl18 : Array (Option Value)} {oc18 kV18 dc18 pm18 cd18 ct18 : Value}
    (a18 : PySem.W.nsIn K mainGlobals "alike_pairs" = some (some (.ref f18))) (l18 : K.lookup f18 = some ⟨oc18, od18, .func (PySem.W.fnOf "alike_pairs" "alike_pairs" (defArgs s_alike_pairs) (defBody s_alike_pairs) (defScope s_alike_pairs) .none kV18 dc18 pm18 an18 cd18 ct18), sl18⟩) (e18 : PySem.W.codeIn K cd18 "alike_pairs" = true) (k18 : PySem.W.keepIn K (.ref f18) = true)
    {f19 : Addr} {od19 an19 : Option Addr} {sl19 : Array (Option Value)} {oc19 kV19 dc19 pm19 cd19 ct19 : Value}
    (a19 : PySem.W.nsIn K mainGlobals "_neighbours" = some (some (.ref f19))) (l19 : K.lookup f19 = some ⟨oc19, od19, .func (PySem.W.fnOf "_neighbours" "_neighbours" (defArgs s_u_neighbours) (defBody s_u_neighbours) (defScope s_u_neighbours) .none kV19 dc19 pm19 an19 cd19 ct19), sl19⟩) (e19 : PySem.W.codeIn K cd19 "_neighbours" = true) (k19 : PySem.W.keepIn K (.ref f19) = true)
    {f20 : Addr} {od20 an20 : Option Addr} {sl20 : Array (Option Value)} {oc20 kV20 dc20 pm20 cd20 ct20 : Value}
    (a20 : PySem.W.nsIn K mainGlobals "_distances" = some (some (.ref f20))) (l20 : K.lookup f20 = some ⟨oc20, od20, .func (PySem.W.fnOf "_distances" "_distances" (defArgs s_u_distances) (defBody s_u_distances) (defScope s_u_distances) .none kV20 dc20 pm20 an20 cd20 ct20), sl20⟩) (e20 : PySem.W.codeIn K cd20 "_distances" = true) (k20 : PySem.W.keepIn K (.ref f20) = true)
    {f21 : Addr} {od21 an21 : Option Addr} {sl21 : Array (Option Value)} {oc21 kV21 dc21 pm21 cd21 ct21 : Value}
    (a21 : PySem.W.nsIn K mainGlobals "told_chain" = some (some (.ref f21))) (l21 : K.lookup f21 = some ⟨oc21, od21, .func (PySem.W.fnOf "told_chain" "told_chain" (defArgs s_told_chain) (defBody s_told_chain) (defScope s_told_chain) .none kV21 dc21 pm21 an21 cd21 ct21), sl21⟩) (e21 : PySem.W.codeIn K cd21 "told_chain" = true) (k21 : PySem.W.keepIn K (.ref f21) = true)
    {f22 : Addr} {od22 an22 : Option Addr} {sl22 : Array (Option Value)} {oc22 kV22 dc22 pm22 cd22 ct22 : Value}
    (a22 : PySem.W.nsIn K mainGlobals "_law_cell" = some (some (.ref f22))) (l22 : K.lookup f22 = some ⟨oc22, od22, .func (PySem.W.fnOf "_law_cell" "_law_cell" (defArgs s_Lcell) (defBody s_Lcell) (defScope s_Lcell) .none kV22 dc22 pm22 an22 cd22 ct22), sl22⟩) (e22 : PySem.W.codeIn K cd22 "_law_cell" = true) (k22 : PySem.W.keepIn K (.ref f22) = true)
    {f23 : Addr} {od23 an23 : Option Addr} {sl23 : Array (Option Value)} {oc23 kV23 dc23 pm23 cd23 ct23 : Value}
    (a23 : PySem.W.nsIn K mainGlobals "_law_digits" = some (some (.ref f23))) (l23 : K.lookup f23 = some ⟨oc23, od23, .func (PySem.W.fnOf "_law_digits" "_law_digits" (defArgs s_Ldigits) (defBody s_Ldigits) (defScope s_Ldigits) .none kV23 dc23 pm23 an23 cd23 ct23), sl23⟩) (e23 : PySem.W.codeIn K cd23 "_law_digits" = true) (k23 : PySem.W.keepIn K (.ref f23) = true)
    {f24 : Addr} {od24 an24 : Option Addr} {sl24 : Array (Option Value)} {oc24 kV24 dc24 pm24 cd24 ct24 : Value}
    (a24 : PySem.W.nsIn K mainGlobals "_law_same" = some (some (.ref f24))) (l24 : K.lookup f24 = some ⟨oc24, od24, .func (PySem.W.fnOf "_law_same" "_law_same" (defArgs s_Lsame) (defBody s_Lsame) (defScope s_Lsame) .none kV24 dc24 pm24 an24 cd24 ct24), sl24⟩) (e24 : PySem.W.codeIn K cd24 "_law_same" = true) (k24 : PySem.W.keepIn K (.ref f24) = true)
    {f25 : Addr} {od25 an25 : Option Addr} {sl25 : Array (Option Value)} {oc25 kV25 dc25 pm25 cd25 ct25 : Value}
    (a25 : PySem.W.nsIn K mainGlobals "law" = some (some (.ref f25))) (l25 : K.lookup f25 = some ⟨oc25, od25, .func (PySem.W.fnOf "law" "law" (defArgs s_law) (defBody s_law) (defScope s_law) .none kV25 dc25 pm25 an25 cd25 ct25), sl25⟩) (e25 : PySem.W.codeIn K cd25 "law" = true) (k25 : PySem.W.keepIn K (.ref f25) = true)
    (z_len : PySem.W.nsIn K mainGlobals "len" = some none)
    (z_int : PySem.W.nsIn K mainGlobals "int" = some none)
    (z_range : PySem.W.nsIn K mainGlobals "range" = some none)
    (z_list : PySem.W.nsIn K mainGlobals "list" = some none)
    (z_max : PySem.W.nsIn K mainGlobals "max" = some none)
    (z_min : PySem.W.nsIn K mainGlobals "min" = some none)
    (z_tuple : PySem.W.nsIn K mainGlobals "tuple" = some none)
    (z_sorted : PySem.W.nsIn K mainGlobals "sorted" = some none)
    (z_isinstance : PySem.W.nsIn K mainGlobals "isinstance" = some none)
    (z_bool : PySem.W.nsIn K mainGlobals "bool" = some none)
    (z_str : PySem.W.nsIn K mainGlobals "str" = some none) :
    ∃ fd : FuncData, (∀ (s : Shared) (v : Value), BindsTo s fd ⟨[v], []⟩ [("_law_script", v)]) ∧ ∀ base : Heap, K.In base → base.Ns mainGlobals mg → FnOk l.prog w K mg base CX0 7 fa fd ["_law_script"] (spOf K sp_law) := by
  have e := hfa.symm.trans (PySem.W.mg_of X G a25)
  cases e
  have F0 := fun_mk (st := s_Ldraw) l0 e0 k0
  have b0 := F0.binds (ps := ["_law_box", "_law_many"]) fun _ _ _ _ _ _ us hl => match us, hl with | [_, _], _ => rfl
  have F1 := fun_mk (st := s_Lsolid) l1 e1 k1
  have b1 := F1.binds (ps := ["_law_box"]) fun _ _ _ _ _ _ us hl => match us, hl with | [_], _ => rfl
  have F2 := fun_mk (st := s_Lword) l2 e2 k2
  have b2 := F2.binds (ps := ["_law_box", "_law_many"]) fun _ _ _ _ _ _ us hl => match us, hl with | [_, _], _ => rfl
  have F3 := fun_mk (st := s_Lstock) l3 e3 k3
  have b3 := F3.binds (ps := ["_law_box", "_law_many"]) fun _ _ _ _ _ _ us hl => match us, hl with | [_, _], _ => rfl
  have F4 := fun_mk (st := s_Lpiece) l4 e4 k4
  have b4 := F4.binds (ps := ["_law_box", "_law_stock_here"]) fun _ _ _ _ _ _ us hl => match us, hl with | [_, _], _ => rfl
  have F5 := fun_mk (st := s_Lpieces) l5 e5 k5
  have b5 := F5.binds (ps := ["_law_box", "_law_stock_here"]) fun _ _ _ _ _ _ us hl => match us, hl with | [_, _], _ => rfl
  have F6 := fun_mk (st := s_Ldocuments) l6 e6 k6
  have b6 := F6.binds (ps := ["_law_box", "_law_stock_here"]) fun _ _ _ _ _ _ us hl => match us, hl with | [_, _], _ => rfl
  have F7 := fun_mk (st := s_Llength) l7 e7 k7
  have b7 := F7.binds (ps := ["_law_box"]) fun _ _ _ _ _ _ us hl => match us, hl with | [_], _ => rfl
  have F8 := fun_mk (st := s_Lshare) l8 e8 k8
  have b8 := F8.binds (ps := ["_law_box"]) fun _ _ _ _ _ _ us hl => match us, hl with | [_], _ => rfl
  have F9 := fun_mk (st := s_Lcopied) l9 e9 k9
  have b9 := F9.binds (ps := ["_law_documents_here"]) fun _ _ _ _ _ _ us hl => match us, hl with | [_], _ => rfl
  have F10 := fun_mk (st := s_Lshingles) l10 e10 k10
  have b10 := F10.binds (ps := ["_law_pieces_here", "_law_length_here"]) fun _ _ _ _ _ _ us hl => match us, hl with | [_, _], _ => rfl
  have F11 := fun_mk (st := s_Lcompared) l11 e11 k11
  have b11 := F11.binds (ps := ["_law_first", "_law_second", "_law_length_here"]) fun _ _ _ _ _ _ us hl => match us, hl with | [_, _, _], _ => rfl
  have F12 := fun_mk (st := s_Lalike) l12 e12 k12
  have b12 := F12.binds (ps := ["_law_first", "_law_second", "_law_length_here", "_law_share_here"]) fun _ _ _ _ _ _ us hl => match us, hl with | [_, _, _, _], _ => rfl
  have F13 := fun_mk (st := s_Lnear) l13 e13 k13
  have b13 := F13.binds (ps := ["_law_documents_here", "_law_length_here", "_law_share_here"]) fun _ _ _ _ _ _ us hl => match us, hl with | [_, _, _], _ => rfl
  have F14 := fun_mk (st := s_Ldistances) l14 e14 k14
  have b14 := F14.binds (ps := ["_law_near_here", "_law_start"]) fun _ _ _ _ _ _ us hl => match us, hl with | [_, _], _ => rfl
  have F15 := fun_mk (st := s_shingles) l15 e15 k15
  have b15 := F15.binds (ps := ["pieces", "length"]) fun _ _ _ _ _ _ us hl => match us, hl with | [_, _], _ => rfl
  have F16 := fun_mk (st := s_meeting_pairs) l16 e16 k16
  have b16 := F16.binds (ps := ["documents", "length"]) fun _ _ _ _ _ _ us hl => match us, hl with | [_, _], _ => rfl
  have F17 := fun_mk (st := s_compare) l17 e17 k17
  have b17 := F17.binds (ps := ["first", "second", "length", "over", "under"]) fun _ _ _ _ _ _ us hl => match us, hl with | [_, _, _, _, _], _ => rfl
  have F18 := fun_mk (st := s_alike_pairs) l18 e18 k18
  have b18 := F18.binds (ps := ["documents", "length", "over", "under"]) fun _ _ _ _ _ _ us hl => match us, hl with | [_, _, _, _], _ => rfl
  have F19 := fun_mk (st := s_u_neighbours) l19 e19 k19
  have b19 := F19.binds (ps := ["documents", "length", "over", "under"]) fun _ _ _ _ _ _ us hl => match us, hl with | [_, _, _, _], _ => rfl
  have F20 := fun_mk (st := s_u_distances) l20 e20 k20
  have b20 := F20.binds (ps := ["table", "start"]) fun _ _ _ _ _ _ us hl => match us, hl with | [_, _], _ => rfl
  have F21 := fun_mk (st := s_told_chain) l21 e21 k21
  have b21 := F21.binds (ps := ["documents", "length", "over", "under", "number"]) fun _ _ _ _ _ _ us hl => match us, hl with | [_, _, _, _, _], _ => rfl
  have F22 := fun_mk (st := s_Lcell) l22 e22 k22
  have b22 := F22.binds (ps := ["_law_script", "_law_k"]) fun _ _ _ _ _ _ us hl => match us, hl with | [_, _], _ => rfl
  have F23 := fun_mk (st := s_Ldigits) l23 e23 k23
  have b23 := F23.binds (ps := ["_law_script", "_law_first", "_law_last"]) fun _ _ _ _ _ _ us hl => match us, hl with | [_, _, _], _ => rfl
  have F24 := fun_mk (st := s_Lsame) l24 e24 k24
  have b24 := F24.binds (ps := ["_law_actual", "_law_due"]) fun _ _ _ _ _ _ us hl => match us, hl with | [_, _], _ => rfl
  have F25 := fun_mk (st := s_law) l25 e25 k25
  have b25 := F25.binds (ps := ["_law_script"]) fun _ _ _ _ _ _ us hl => match us, hl with | [_], _ => rfl
  have T : Tops K mg := ⟨⟨_, _, F0, PySem.W.mg_of X G a0, b0⟩, ⟨_, _, F1, PySem.W.mg_of X G a1, b1⟩, ⟨_, _, F2, PySem.W.mg_of X G a2, b2⟩, ⟨_, _, F3, PySem.W.mg_of X G a3, b3⟩, ⟨_, _, F4, PySem.W.mg_of X G a4, b4⟩, ⟨_, _, F5, PySem.W.mg_of X G a5, b5⟩, ⟨_, _, F6, PySem.W.mg_of X G a6, b6⟩, ⟨_, _, F7, PySem.W.mg_of X G a7, b7⟩, ⟨_, _, F8, PySem.W.mg_of X G a8, b8⟩, ⟨_, _, F9, PySem.W.mg_of X G a9, b9⟩, ⟨_, _, F10, PySem.W.mg_of X G a10, b10⟩, ⟨_, _, F11, PySem.W.mg_of X G a11, b11⟩, ⟨_, _, F12, PySem.W.mg_of X G a12, b12⟩, ⟨_, _, F13, PySem.W.mg_of X G a13, b13⟩, ⟨_, _, F14, PySem.W.mg_of X G a14, b14⟩, ⟨_, _, F15, PySem.W.mg_of X G a15, b15⟩, ⟨_, _, F16, PySem.W.mg_of X G a16, b16⟩, ⟨_, _, F17, PySem.W.mg_of X G a17, b17⟩, ⟨_, _, F18, PySem.W.mg_of X G a18, b18⟩, ⟨_, _, F19, PySem.W.mg_of X G a19, b19⟩, ⟨_, _, F20, PySem.W.mg_of X G a20, b20⟩, ⟨_, _, F21, PySem.W.mg_of X G a21, b21⟩, ⟨_, _, F22, PySem.W.mg_of X G a22, b22⟩, ⟨_, _, F23, PySem.W.mg_of X G a23, b23⟩, ⟨_, _, F24, PySem.W.mg_of X G a24, b24⟩, PySem.W.mg_none_of X G z_len, PySem.W.mg_none_of X G z_int, PySem.W.mg_none_of X G z_range, PySem.W.mg_none_of X G z_list, PySem.W.mg_none_of X G z_max, PySem.W.mg_none_of X G z_min, PySem.W.mg_none_of X G z_tuple, PySem.W.mg_none_of X G z_sorted, PySem.W.mg_none_of X G z_isinstance, PySem.W.mg_none_of X G z_bool, PySem.W.mg_none_of X G z_str⟩
  refine ⟨PySem.W.fnOf "law" "law" (defArgs s_law) (defBody s_law) (defScope s_law) .none kV25 dc25 pm25 an25 cd25 ct25, fun s v => .of_eq rfl, fun base _ _ => ?_⟩
  exact law_ok (P := l.prog) (w := w) (base := base) T F25
end My
open PySem PySem.W PyProof.Rows
set_option maxRecDepth 100000 in
set_option maxHeartbeats 0 in
theorem PySem.Challenge.cw_corpuskeep_k30_told_chains_holds : PySem.Challenge.rw_corpuskeep_k30_told_chains.Holds := by
  w_on; o_law; k_head; (case hw => w_witness2)
  k_fill
  refine L2.walk_ofK (l := PySem.Challenge.rw_corpuskeep_k30_told_chains) (n := 63) (k := 7) (x := "_law_script") (CX := L2.CX0) (sp := fun K => DS.spOf K My.sp_law) rfl (by decide) rfl ⟨rfl, by decide, by decide⟩ (fun w h Y => PySem.W.kIn_of Y) ?F (fun K H a ns hl _ hS => DS.law_sp hl hS) (fun _ _ _ _ h => h)
  case F =>
    intro w mg fa h KX G hmg
    refine' My.all_mk KX G hmg ?a0 ?l0 ?e0 ?k0 ?a1 ?l1 ?e1 ?k1 ?a2 ?l2 ?e2 ?k2 ?a3 ?l3 ?e3 ?k3 ?a4 ?l4 ?e4 ?k4 ?a5 ?l5 ?e5 ?k5 ?a6 ?l6 ?e6 ?k6 ?a7 ?l7 ?e7 ?k7 ?a8 ?l8 ?e8 ?k8 ?a9 ?l9 ?e9 ?k9 ?a10 ?l10 ?e10 ?k10 ?a11 ?l11 ?e11 ?k11 ?a12 ?l12 ?e12 ?k12 ?a13 ?l13 ?e13 ?k13 ?a14 ?l14 ?e14 ?k14 ?a15 ?l15 ?e15 ?k15 ?a16 ?l16 ?e16 ?k16 ?a17 ?l17 ?e17 ?k17 ?a18 ?l18 ?e18 ?k18 ?a19 ?l19 ?e19 ?k19 ?a20 ?l20 ?e20 ?k20 ?a21 ?l21 ?e21 ?k21 ?a22 ?l22 ?e22 ?k22 ?a23 ?l23 ?e23 ?k23 ?a24 ?l24 ?e24 ?k24 ?a25 ?l25 ?e25 ?k25 ?z_len ?z_int ?z_range ?z_list ?z_max ?z_min ?z_tuple ?z_sorted ?z_isinstance ?z_bool ?z_str
    (case a0 => k_is)
    (case l0 => k_is)
    (case e0 => k_is)
    (case k0 => k_is)
    (case a1 => k_is)
    (case l1 => k_is)
    (case e1 => k_is)
    (case k1 => k_is)
    (case a2 => k_is)
    (case l2 => k_is)
    (case e2 => k_is)
    (case k2 => k_is)
    (case a3 => k_is)
    (case l3 => k_is)
    (case e3 => k_is)
    (case k3 => k_is)
    (case a4 => k_is)
    (case l4 => k_is)
    (case e4 => k_is)
    (case k4 => k_is)
    (case a5 => k_is)
    (case l5 => k_is)
    (case e5 => k_is)
    (case k5 => k_is)
    (case a6 => k_is)
    (case l6 => k_is)
    (case e6 => k_is)
    (case k6 => k_is)
    (case a7 => k_is)
    (case l7 => k_is)
    (case e7 => k_is)
    (case k7 => k_is)
    (case a8 => k_is)
    (case l8 => k_is)
    (case e8 => k_is)
    (case k8 => k_is)
    (case a9 => k_is)
    (case l9 => k_is)
    (case e9 => k_is)
    (case k9 => k_is)
    (case a10 => k_is)
    (case l10 => k_is)
    (case e10 => k_is)
    (case k10 => k_is)
    (case a11 => k_is)
    (case l11 => k_is)
    (case e11 => k_is)
    (case k11 => k_is)
    (case a12 => k_is)
    (case l12 => k_is)
    (case e12 => k_is)
    (case k12 => k_is)
    (case a13 => k_is)
    (case l13 => k_is)
    (case e13 => k_is)
    (case k13 => k_is)
    (case a14 => k_is)
    (case l14 => k_is)
    (case e14 => k_is)
    (case k14 => k_is)
    (case a15 => k_is)
    (case l15 => k_is)
    (case e15 => k_is)
    (case k15 => k_is)
    (case a16 => k_is)
    (case l16 => k_is)
    (case e16 => k_is)
    (case k16 => k_is)
    (case a17 => k_is)
    (case l17 => k_is)
    (case e17 => k_is)
    (case k17 => k_is)
    (case a18 => k_is)
    (case l18 => k_is)
    (case e18 => k_is)
    (case k18 => k_is)
    (case a19 => k_is)
    (case l19 => k_is)
    (case e19 => k_is)
    (case k19 => k_is)
    (case a20 => k_is)
    (case l20 => k_is)
    (case e20 => k_is)
    (case k20 => k_is)
    (case a21 => k_is)
    (case l21 => k_is)
    (case e21 => k_is)
    (case k21 => k_is)
    (case a22 => k_is)
    (case l22 => k_is)
    (case e22 => k_is)
    (case k22 => k_is)
    (case a23 => k_is)
    (case l23 => k_is)
    (case e23 => k_is)
    (case k23 => k_is)
    (case a24 => k_is)
    (case l24 => k_is)
    (case e24 => k_is)
    (case k24 => k_is)
    (case a25 => k_is)
    (case l25 => k_is)
    (case e25 => k_is)
    (case k25 => k_is)
    (case z_len => k_is)
    (case z_int => k_is)
    (case z_range => k_is)
    (case z_list => k_is)
    (case z_max => k_is)
    (case z_min => k_is)
    (case z_tuple => k_is)
    (case z_sorted => k_is)
    (case z_isinstance => k_is)
    (case z_bool => k_is)
    (case z_str => k_is)
#print axioms PySem.Challenge.cw_corpuskeep_k30_told_chains_holds
