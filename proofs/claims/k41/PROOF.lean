import PyProof.Rows.All
import Wide.All
import OpenK.AllK
import Wide.FinOn
import HandS.ForMost
import HandS.IsInst
import HandS.Deep
import HandS.TupLen
import PyProof.StrBlock2
import HandS.More
import HandS.SetFor
import HandS.RevRange
import HandS.StrMore
import PyProof.DictMoreH
import HandS.SetKeys
import HandS.DictComp
import HandS.SortRule
import HandS.SortInts
import KE.KDictCopyH
import HandS.ListItems
import HandS.TryOnly
import HandS.ReplaceLit
import HandS.ReplaceDef
import HandS.ReplaceList
import KE.KSuper
import KE.KExcSuper
import HandS.Exc
import HandS.ExcOwn
import HandS.ExcCtx
import HandS.ExcInit
import HandS.ExcInitHot
import KE.KExcIs
import HandS.ExcIs
import HandS.ExcField
import HandS.FStr
import HandS.SuiteRaise
import HandS.RaiseFrom
import HandS.HotCalls
import HandS.WordsExc
import HandS.Small
import HandS.Wide
import HandS.Strs
import PySem.Challenge.RW_corpuskeep_k41_codes_that_are_refused
set_option Elab.async false
set_option linter.all false
set_option maxRecDepth 100000
set_option maxHeartbeats 8000000
/-! A layer of plain data over the hand layer: what a def does to data, no address in sight. -/
namespace DS
open PySem PySem.Spec PyProof.Rows L2

/-- the program's classes -/
inductive CN where
  | CorpusError | RulesFault | TooLarge | DuplicateDocument | UnknownDocument | UnknownSource | OtherSources | TooManyDocuments | NotPublished | InvalidBytes | UnknownCode | OutOfRange
  | SignReader | Rules | Contents | Corpus | Book | Keeper
  deriving DecidableEq
def CN.s : CN → Str
  | .CorpusError => "CorpusError"
  | .RulesFault => "RulesFault"
  | .TooLarge => "TooLarge"
  | .DuplicateDocument => "DuplicateDocument"
  | .UnknownDocument => "UnknownDocument"
  | .UnknownSource => "UnknownSource"
  | .OtherSources => "OtherSources"
  | .TooManyDocuments => "TooManyDocuments"
  | .NotPublished => "NotPublished"
  | .InvalidBytes => "InvalidBytes"
  | .UnknownCode => "UnknownCode"
  | .OutOfRange => "OutOfRange"
  | .SignReader => "SignReader"
  | .Rules => "Rules"
  | .Contents => "Contents"
  | .Corpus => "Corpus"
  | .Book => "Book"
  | .Keeper => "Keeper"
/-- a class of the module's top, by its name -/
def NmC (K : PySem.W.Frag) (x : CN) (C : Addr) : Prop := PySem.W.nsIn K mainGlobals x.s = some (some (.ref C))
theorem NmC.eq {K : PySem.W.Frag} {x : CN} {C D : Addr} (h : NmC K x C) (h' : NmC K x D) : C = D := by
  have e := h.symm.trans h'
  cases e
  rfl
inductive TyN where | list | tuple | str | int | bool | dict
  deriving DecidableEq
def TyN.s : TyN → String
  | .list => "list"
  | .tuple => "tuple"
  | .str => "str"
  | .int => "int"
  | .bool => "bool"
  | .dict => "dict"
/-- plain data -/
inductive D where
  | non | bl (b : Bool) | int (i : Int) | str (x : Str)
  | lst (xs : List D) | rol (xs : List D) | tup (xs : List D) | rot (xs : List D)
  | dK (kvs : List (Key × D)) | dT (kvs : List (List Key × D))
  | lK (kvs : List (Key × D)) | lT (kvs : List (List Key × D))
  | ins (C : CN) (fs : List (Str × D))
  | exc (a : Addr) (d : Option Addr) (C : CN) (fs : List (Str × D))
  | ty (n : TyN)
  | adr (p : Addr)

mutual
/-- a value stands for data, all of it in the frozen part F -/
inductive Rep (K : PySem.W.Frag) (F : Hp) : V → D → Prop
  | non : Rep K F .non .non
  | bl (b : Bool) : Rep K F (.bl b) (.bl b)
  | int (i : Int) : Rep K F (.int i) (.int i)
  | str (x : Str) : Rep K F (.str x) (.str x)
  | ty (n : TyN) : Rep K F (.ty n.s) (.ty n)
  | adr (p : Addr) : Rep K F (.ref p) (.adr p)
  | lst {a : Addr} {vs : List V} {ds : List D} : F a = some (.lst vs) → Reps K F vs ds → Rep K F (.ref a) (.lst ds)
  | rol {a : Addr} {vs : List V} {ds : List D} : SqL K F a vs → Reps K F vs ds → Rep K F (.ref a) (.rol ds)
  | tup {a : Addr} {vs : List V} {ds : List D} : F a = some (.tup vs) → Reps K F vs ds → Rep K F (.ref a) (.tup ds)
  | rot {a : Addr} {vs : List V} {ds : List D} : SqT K F a vs → Reps K F vs ds → Rep K F (.ref a) (.rot ds)
  | dK {a : Addr} {vs : List (Key × V)} {ds : List (Key × D)} : F a = some (.dK vs) → RepA K F vs ds → Rep K F (.ref a) (.dK ds)
  | dT {a : Addr} {vs : List (List Key × V)} {ds : List (List Key × D)} : F a = some (.dT vs) → RepA K F vs ds → Rep K F (.ref a) (.dT ds)
  | lK {a : Addr} {o : Obj} {vs : List (Key × V)} {ds : List (Key × D)} : F a = some (.frz o (.dK vs)) → RepA K F vs ds → Rep K F (.ref a) (.lK ds)
  | lT {a : Addr} {o : Obj} {vs : List (List Key × V)} {ds : List (List Key × D)} : F a = some (.frz o (.dT vs)) → RepA K F vs ds → Rep K F (.ref a) (.lT ds)
  | ins {a C dx : Addr} {x : CN} {vs : List (Str × V)} {ds : List (Str × D)} : NmC K x C → F a = some (.ins C dx vs) → RepA K F vs ds → Rep K F (.ref a) (.ins x ds)
  | exc0 {a : Addr} {x : CN} : Rep K F (.ref a) (.exc a none x [])
  | exc {a d : Addr} {x : CN} {vs : List (Str × V)} {ds : List (Str × D)} : F d = some (.xd vs) → RepA K F vs ds → Rep K F (.ref a) (.exc a (some d) x ds)
inductive Reps (K : PySem.W.Frag) (F : Hp) : List V → List D → Prop
  | nil : Reps K F [] []
  | cons {v : V} {vs : List V} {d : D} {ds : List D} : Rep K F v d → Reps K F vs ds → Reps K F (v :: vs) (d :: ds)
inductive RepA (K : PySem.W.Frag) (F : Hp) : {κ : Type} → List (κ × V) → List (κ × D) → Prop
  | nil {κ : Type} : RepA K F ([] : List (κ × V)) []
  | cons {κ : Type} {k : κ} {v : V} {vs : List (κ × V)} {d : D} {ds : List (κ × D)} : Rep K F v d → RepA K F vs ds → RepA K F ((k, v) :: vs) ((k, d) :: ds)
end

section
variable {K : PySem.W.Frag} {F F' H H' : Hp}
theorem same_seqT (e : Same F F') {a : Addr} {xs : List V} (h : SqT K F a xs) : SqT K F' a xs := by
  rcases h with (h | ⟨o, h⟩) | h
  · exact .inl (.inl (e _ _ h))
  · exact .inl (.inr ⟨o, e _ _ h⟩)
  · exact .inr h
theorem Rep.mono {v : V} {d : D} (e : Same F F') (h : Rep K F v d) : Rep K F' v d := by
  refine Rep.rec (motive_1 := fun v d _ => Rep K F' v d) (motive_2 := fun vs ds _ => Reps K F' vs ds) (motive_3 := fun {κ} vs ds _ => RepA K F' vs ds)
    .non .bl .int .str .ty .adr (fun h _ r => .lst (e _ _ h) r) (fun h _ r => .rol (e.seq h) r) (fun h _ r => .tup (e _ _ h) r) (fun h _ r => .rot (same_seqT e h) r)
    (fun h _ r => .dK (e _ _ h) r) (fun h _ r => .dT (e _ _ h) r) (fun h _ r => .lK (e _ _ h) r) (fun h _ r => .lT (e _ _ h) r) (fun n h _ r => .ins n (e _ _ h) r) .exc0 (fun h _ r => .exc (e _ _ h) r) .nil (fun _ _ a b => .cons a b) .nil (fun _ _ a b => .cons a b) h
theorem Reps.mono {vs : List V} {ds : List D} (e : Same F F') (h : Reps K F vs ds) : Reps K F' vs ds := by
  refine Reps.rec (motive_1 := fun v d _ => Rep K F' v d) (motive_2 := fun vs ds _ => Reps K F' vs ds) (motive_3 := fun {κ} vs ds _ => RepA K F' vs ds)
    .non .bl .int .str .ty .adr (fun h _ r => .lst (e _ _ h) r) (fun h _ r => .rol (e.seq h) r) (fun h _ r => .tup (e _ _ h) r) (fun h _ r => .rot (same_seqT e h) r)
    (fun h _ r => .dK (e _ _ h) r) (fun h _ r => .dT (e _ _ h) r) (fun h _ r => .lK (e _ _ h) r) (fun h _ r => .lT (e _ _ h) r) (fun n h _ r => .ins n (e _ _ h) r) .exc0 (fun h _ r => .exc (e _ _ h) r) .nil (fun _ _ a b => .cons a b) .nil (fun _ _ a b => .cons a b) h
theorem RepA.mono {κ : Type} {vs : List (κ × V)} {ds : List (κ × D)} (e : Same F F') (h : RepA K F vs ds) : RepA K F' vs ds := by
  refine RepA.rec (motive_1 := fun v d _ => Rep K F' v d) (motive_2 := fun vs ds _ => Reps K F' vs ds) (motive_3 := fun {κ} vs ds _ => RepA K F' vs ds)
    .non .bl .int .str .ty .adr (fun h _ r => .lst (e _ _ h) r) (fun h _ r => .rol (e.seq h) r) (fun h _ r => .tup (e _ _ h) r) (fun h _ r => .rot (same_seqT e h) r)
    (fun h _ r => .dK (e _ _ h) r) (fun h _ r => .dT (e _ _ h) r) (fun h _ r => .lK (e _ _ h) r) (fun h _ r => .lT (e _ _ h) r) (fun n h _ r => .ins n (e _ _ h) r) .exc0 (fun h _ r => .exc (e _ _ h) r) .nil (fun _ _ a b => .cons a b) .nil (fun _ _ a b => .cons a b) h
theorem Reps.length : ∀ {vs : List V} {ds : List D}, Reps K F vs ds → vs.length = ds.length
  | _, _, .nil => rfl
  | _, _, .cons _ t => congrArg (· + 1) t.length
theorem Reps.get : ∀ {vs : List V} {ds : List D} {i : Nat} {v : V}, Reps K F vs ds → vs[i]? = some v → ∃ d, ds[i]? = some d ∧ Rep K F v d
  | _, _, _, _, .nil, e => by simp at e
  | _, _, 0, _, .cons r _, e => by simp at e; subst e; exact ⟨_, rfl, r⟩
  | _, _, i + 1, v, .cons _ t, e => by
    obtain ⟨d, h1, h2⟩ := Reps.get (i := i) (v := v) t (by simpa using e)
    exact ⟨d, by simpa using h1, h2⟩
theorem Reps.get' : ∀ {vs : List V} {ds : List D} {i : Nat} {d : D}, Reps K F vs ds → ds[i]? = some d → ∃ v, vs[i]? = some v ∧ Rep K F v d
  | _, _, _, _, .nil, e => by simp at e
  | _, _, 0, _, .cons r _, e => by simp at e; subst e; exact ⟨_, rfl, r⟩
  | _, _, i + 1, v, .cons _ t, e => by
    obtain ⟨d, h1, h2⟩ := Reps.get' (i := i) (d := v) t (by simpa using e)
    exact ⟨d, by simpa using h1, h2⟩
theorem Reps.append : ∀ {xs ys : List V} {us ws : List D}, Reps K F xs us → Reps K F ys ws → Reps K F (xs ++ ys) (us ++ ws)
  | _, _, _, _, .nil, s => s
  | _, _, _, _, .cons r t, s => .cons r (Reps.append t s)
theorem Reps.take : ∀ {xs : List V} {us : List D} (n : Nat), Reps K F xs us → Reps K F (xs.take n) (us.take n)
  | _, _, 0, _ => .nil
  | _, _, _ + 1, .nil => .nil
  | _, _, n + 1, .cons r t => .cons r (Reps.take n t)
theorem Reps.drop : ∀ {xs : List V} {us : List D} (n : Nat), Reps K F xs us → Reps K F (xs.drop n) (us.drop n)
  | _, _, 0, r => r
  | _, _, _ + 1, .nil => .nil
  | _, _, n + 1, .cons _ t => Reps.drop n t
theorem Reps.set {x : V} {u : D} (r : Rep K F x u) : ∀ {xs : List V} {us : List D} (i : Nat), Reps K F xs us → Reps K F (xs.set i x) (us.set i u)
  | _, _, _, .nil => .nil
  | _, _, 0, .cons _ t => .cons r t
  | _, _, i + 1, .cons q t => .cons q (Reps.set r i t)
theorem Reps.reverse {xs : List V} {us : List D} (h : Reps K F xs us) : Reps K F xs.reverse us.reverse := by
  induction xs generalizing us with
  | nil => cases h; exact .nil
  | cons x xs ih =>
    cases h with
    | cons r t => rw [List.reverse_cons, List.reverse_cons]; exact (ih t).append (.cons r .nil)
theorem Reps.rep {xs : List V} {us : List D} (h : Reps K F xs us) : ∀ k : Nat, Reps K F (List.replicate k xs).flatten (List.replicate k us).flatten
  | 0 => .nil
  | k + 1 => by
    rw [List.replicate_succ, List.replicate_succ, List.flatten_cons, List.flatten_cons]
    exact Reps.append h (Reps.rep h k)
theorem Reps.eraseIdx : ∀ {xs : List V} {us : List D} (i : Nat), Reps K F xs us → Reps K F (xs.eraseIdx i) (us.eraseIdx i)
  | _, _, _, .nil => .nil
  | _, _, 0, .cons _ t => t
  | _, _, i + 1, .cons r t => .cons r (Reps.eraseIdx i t)
theorem Reps.dropLast : ∀ {xs : List V} {us : List D}, Reps K F xs us → Reps K F xs.dropLast us.dropLast
  | _, _, .nil => .nil
  | _, _, .cons r .nil => .nil
  | _, _, .cons r (.cons r' t) => .cons r (Reps.dropLast (.cons r' t))
theorem Reps.ints : ∀ {xs : List V} {ns : List Int}, Reps K F xs (ns.map D.int) → xs = ns.map V.int
  | _, [], h => by cases h; rfl
  | _, n :: ns, h => by
    cases h with
    | cons r t => cases r; rw [List.map_cons, Reps.ints t]
theorem reps_ints : ∀ (ns : List Int), Reps K F (ns.map V.int) (ns.map D.int)
  | [] => .nil
  | n :: ns => .cons (.int n) (reps_ints ns)
theorem Reps.strs : ∀ {xs : List V} {ns : List Str}, Reps K F xs (ns.map D.str) → xs = ns.map V.str
  | _, [], h => by cases h; rfl
  | _, n :: ns, h => by
    cases h with
    | cons r t => cases r; rw [List.map_cons, Reps.strs t]
theorem reps_strs : ∀ (ns : List Str), Reps K F (ns.map V.str) (ns.map D.str)
  | [] => .nil
  | n :: ns => .cons (.str n) (reps_strs ns)
end

/-! ### the state -/
inductive Ow where | no | own | lent
  deriving DecidableEq
/-- what a slot holds: data that nobody changes any more (no), an object of one's own (own), of the caller's (lent) -/
structure AV where
  o : Ow
  c : D
abbrev PSt := List (Option AV)
inductive Res where | dat (d : D) | new (d : D) | slot (i : Nat)
structure Exc where
  C : CN
  fs : List (Str × D)

/-- an object as it stands, its parts in F -/
inductive Top (K : PySem.W.Frag) (F : Hp) : HO → D → Prop
  | lst {vs : List V} {ds : List D} : Reps K F vs ds → Top K F (.lst vs) (.lst ds)
  | dK {vs : List (Key × V)} {ds : List (Key × D)} : RepA K F vs ds → Top K F (.dK vs) (.dK ds)
  | dT {vs : List (List Key × V)} {ds : List (List Key × D)} : RepA K F vs ds → Top K F (.dT vs) (.dT ds)
  | lK {o : Obj} {vs : List (Key × V)} {ds : List (Key × D)} : RepA K F vs ds → Top K F (.frz o (.dK vs)) (.lK ds)
  | lT {o : Obj} {vs : List (List Key × V)} {ds : List (List Key × D)} : RepA K F vs ds → Top K F (.frz o (.dT vs)) (.lT ds)
  | ins {C dx : Addr} {x : CN} {vs : List (Str × V)} {ds : List (Str × D)} : NmC K x C → RepA K F vs ds → Top K F (.ins C dx vs) (.ins x ds)
def TopAt (K : PySem.W.Frag) (F H : Hp) (p : Addr) (d : D) : Prop := ∃ o, H p = some o ∧ Top K F o d
theorem Top.mono {K : PySem.W.Frag} {F F' : Hp} {o : HO} {d : D} (e : Same F F') (h : Top K F o d) : Top K F' o d := by
  cases h with
  | lst r => exact .lst (r.mono e)
  | dK r => exact .dK (r.mono e)
  | dT r => exact .dT (r.mono e)
  | lK r => exact .lK (r.mono e)
  | lT r => exact .lT (r.mono e)
  | ins n r => exact .ins n (r.mono e)
/-- frozen, it stands for the same -/
theorem Top.rep {K : PySem.W.Frag} {F F' : Hp} {p : Addr} {o : HO} {d : D} (e : Same F F') (h : Top K F o d) (hp : F' p = some o) : Rep K F' (.ref p) d := by
  cases h with
  | lst r => exact .lst hp (r.mono e)
  | dK r => exact .dK hp (r.mono e)
  | dT r => exact .dT hp (r.mono e)
  | lK r => exact .lK hp (r.mono e)
  | lT r => exact .lT hp (r.mono e)
  | ins n r => exact .ins n hp (r.mono e)

/-- the state at a def's entry: its frozen part, its heap, what is lent, the arguments -/
structure En where
  F : Hp
  H : Hp
  L : Addr → Prop
  vs : List V

def OwnAt (K : PySem.W.Frag) (E : En) (F H : Hp) (i : Nat) (v : V) (av : AV) : Prop :=
  match av.o with
  | .no => Rep K F v av.c
  | .own => ∃ p, v = .ref p ∧ F p = none ∧ E.H p = none ∧ TopAt K F H p av.c
  | .lent => ∃ p, v = .ref p ∧ F p = none ∧ E.L p ∧ E.vs[i]? = some (.ref p) ∧ TopAt K F H p av.c

structure Rel (K : PySem.W.Frag) (E : En) (F H : Hp) (σ : L2.St) (a : PSt) : Prop where
  ext : Same F H
  f0 : Same E.F F
  new : ∀ p o, F p = some o → E.F p = some o ∨ E.H p = none ∨ ∃ xs, o = .tup xs
  keep : ∀ p o, E.H p = some o → ¬ E.L p → H p = some o
  dom : ∀ p, H p = none → E.H p = none
  lt : ∀ p, E.L p → E.H p ≠ none
  len : a.length = σ.length
  sl : ∀ (i : Nat) (av : AV), a[i]? = some (some av) → ∃ v, σ[i]? = some (some v) ∧ OwnAt K E F H i v av
  dis : ∀ (i j : Nat) (ai aj : AV) (p : Addr), i ≠ j → a[i]? = some (some ai) → a[j]? = some (some aj) → ai.o ≠ .no → aj.o ≠ .no → σ[i]? = some (some (.ref p)) → σ[j]? = some (some (.ref p)) → False

/-- what the slots own -/
def Owned (σ : L2.St) (a : PSt) (p : Addr) : Prop := ∃ (i : Nat) (av : AV), a[i]? = some (some av) ∧ av.o ≠ .no ∧ σ[i]? = some (some (.ref p))

def RepR (K : PySem.W.Frag) (E : En) (F H : Hp) (σ : L2.St) (a : PSt) (v : V) : Res → Prop
  | .dat d => Rep K F v d
  | .new d => ∃ p, v = .ref p ∧ F p = none ∧ E.H p = none ∧ TopAt K F H p d ∧ ¬ Owned σ a p
  | .slot i => σ[i]? = some (some v)

section
variable {K : PySem.W.Frag} {E : En} {F F' H H' : Hp} {σ : L2.St} {a : PSt}
theorem OwnAt.mono {i : Nat} {v : V} {av : AV} (e : Same F F') (h : OwnAt K E F H i v av) (hn : ∀ p, v = .ref p → av.o ≠ .no → F p = none → F' p = none) : OwnAt K E F' H i v av := by
  unfold OwnAt at *
  obtain ⟨o, c⟩ := av
  cases o with
  | no => exact Rep.mono e h
  | own =>
    obtain ⟨p, rfl, h1, h2, o, h3, h4⟩ := h
    exact ⟨p, rfl, hn p rfl (by simp) h1, h2, o, h3, h4.mono e⟩
  | lent =>
    obtain ⟨p, rfl, h1, h2, h5, o, h3, h4⟩ := h
    exact ⟨p, rfl, hn p rfl (by simp) h1, h2, h5, o, h3, h4.mono e⟩
theorem OwnAt.fnone {i : Nat} {p : Addr} {av : AV} (h : OwnAt K E F H i (.ref p) av) (ho : av.o ≠ .no) : F p = none := by
  unfold OwnAt at h
  obtain ⟨o, c⟩ := av
  cases o with
  | no => exact absurd rfl ho
  | own => obtain ⟨q, e, h1, _⟩ := h; cases e; exact h1
  | lent => obtain ⟨q, e, h1, _⟩ := h; cases e; exact h1
theorem OwnAt.top {i : Nat} {p : Addr} {av : AV} (h : OwnAt K E F H i (.ref p) av) (ho : av.o ≠ .no) : TopAt K F H p av.c := by
  unfold OwnAt at h
  obtain ⟨o, c⟩ := av
  cases o with
  | no => exact absurd rfl ho
  | own => obtain ⟨q, e, h1, h2, h3⟩ := h; cases e; exact h3
  | lent => obtain ⟨q, e, h1, h2, h3, h4⟩ := h; cases e; exact h4
theorem Rel.owned_f (R : Rel K E F H σ a) {p : Addr} (h : Owned σ a p) : F p = none := by
  obtain ⟨i, av, h1, h2, h3⟩ := h
  obtain ⟨v, e, q⟩ := R.sl i av h1
  rw [h3] at e
  cases e
  exact q.fnone h2
theorem Rel.owned_h (R : Rel K E F H σ a) {p : Addr} (h : Owned σ a p) : H p ≠ none := by
  obtain ⟨i, av, h1, h2, h3⟩ := h
  obtain ⟨v, e, q⟩ := R.sl i av h1
  rw [h3] at e
  cases e
  obtain ⟨o, ho, _⟩ := q.top h2
  rw [ho]
  exact fun z => by cases z
/-- a new address is no slot's -/
theorem Rel.fresh (R : Rel K E F H σ a) {p : Addr} (h : H p = none) : F p = none ∧ E.H p = none ∧ ¬ Owned σ a p :=
  ⟨R.ext.free h, R.dom p h, fun z => R.owned_h z h⟩
/-- a new object is laid, outside of F -/
theorem Rel.lay (R : Rel K E F H σ a) {p : Addr} (o : HO) (h : H p = none) : Rel K E F (upd H p o) σ a where
  ext := fun b u e => by rw [upd_ne (ne_of_none (R.ext _ _ e) h)]; exact R.ext _ _ e
  f0 := R.f0
  new := R.new
  keep := fun b u e l => by rw [upd_ne (ne_of_none (R.keep _ _ e l) h)]; exact R.keep _ _ e l
  dom := fun b e => by
    by_cases hb : b = p
    · rw [hb]; exact R.dom p h
    · rw [upd_ne hb] at e; exact R.dom b e
  lt := R.lt
  len := R.len
  sl := fun i av e => by
    obtain ⟨v, e1, q⟩ := R.sl i av e
    refine ⟨v, e1, ?_⟩
    unfold OwnAt at *
    obtain ⟨ow, c⟩ := av
    cases ow with
    | no => exact q
    | own =>
      obtain ⟨b, rfl, h1, h2, u, h3, h4⟩ := q
      exact ⟨b, rfl, h1, h2, u, by rw [upd_ne (ne_of_none h3 h)]; exact h3, h4⟩
    | lent =>
      obtain ⟨b, rfl, h1, h2, h5, u, h3, h4⟩ := q
      exact ⟨b, rfl, h1, h2, h5, u, by rw [upd_ne (ne_of_none h3 h)]; exact h3, h4⟩
  dis := R.dis
/-- an object that no slot owns joins the frozen part -/
theorem Rel.freeze (R : Rel K E F H σ a) {p : Addr} {o : HO} (h : H p = some o) (hF : F p = none) (hE : E.H p = none) (hn : ¬ Owned σ a p) : Same F (upd F p o) ∧ Rel K E (upd F p o) H σ a := by
  have s : Same F (upd F p o) := fun b u e => by rw [upd_ne (ne_of_none e hF)]; exact e
  refine ⟨s, ⟨fun b u e => ?_, R.f0.trans s, fun b u e => ?_, R.keep, R.dom, R.lt, R.len, fun i av e => ?_, R.dis⟩⟩
  · by_cases hb : b = p
    · subst hb; rw [upd_same] at e; rw [h]; exact e
    · rw [upd_ne hb] at e; exact R.ext _ _ e
  · by_cases hb : b = p
    · subst hb; exact .inr (.inl hE)
    · rw [upd_ne hb] at e; exact R.new _ _ e
  · obtain ⟨v, e1, q⟩ := R.sl i av e
    refine ⟨v, e1, q.mono s fun b hb ho hf => ?_⟩
    have : b ≠ p := fun z => hn ⟨i, av, e, ho, by rw [e1, hb, z]⟩
    rw [upd_ne this]
    exact hf
/-- a slot gives up its own object -/
theorem Rel.giveUp (R : Rel K E F H σ a) {i : Nat} {c : D} (h : a[i]? = some (some ⟨.own, c⟩)) :
    ∃ F2, Same F F2 ∧ Rel K E F2 H σ (a.set i (some ⟨.no, c⟩)) ∧ ∀ v, σ[i]? = some (some v) → Rep K F2 v c := by
  obtain ⟨v, e1, p, rfl, h1, h2, o, h3, h4⟩ := R.sl i _ h
  have hi : i < a.length := (List.getElem?_eq_some_iff.mp h).1
  have s : Same F (upd F p o) := fun b u e => by rw [upd_ne (ne_of_none e h1)]; exact e
  have rp : Rep K (upd F p o) (.ref p) c := h4.rep s upd_same
  refine ⟨upd F p o, s, ⟨fun b u e => ?_, R.f0.trans s, fun b u e => ?_, R.keep, R.dom, R.lt, by rw [List.length_set]; exact R.len, fun j av e => ?_, fun j k aj ak q hjk ej ek oj ok sj sk => ?_⟩, fun v hv => ?_⟩
  · by_cases hb : b = p
    · subst hb; rw [upd_same] at e; rw [h3]; exact e
    · rw [upd_ne hb] at e; exact R.ext _ _ e
  · by_cases hb : b = p
    · subst hb; exact .inr (.inl h2)
    · rw [upd_ne hb] at e; exact R.new _ _ e
  · by_cases hj : j = i
    · subst hj
      rw [List.getElem?_set_self hi] at e
      cases e
      exact ⟨_, e1, rp⟩
    · rw [List.getElem?_set_ne (Ne.symm hj)] at e
      obtain ⟨v, e2, q⟩ := R.sl j av e
      refine ⟨v, e2, q.mono s fun b hb ho hf => ?_⟩
      have : b ≠ p := fun z => R.dis j i av _ p hj e h ho (by simp) (by rw [e2, hb, z]) e1
      rw [upd_ne this]
      exact hf
  · have hj : j ≠ i := fun z => by
      subst z
      rw [List.getElem?_set_self hi] at ej
      cases ej
      exact oj rfl
    have hk : k ≠ i := fun z => by
      subst z
      rw [List.getElem?_set_self hi] at ek
      cases ek
      exact ok rfl
    rw [List.getElem?_set_ne (Ne.symm hj)] at ej
    rw [List.getElem?_set_ne (Ne.symm hk)] at ek
    exact R.dis j k aj ak q hjk ej ek oj ok sj sk
  · rw [e1] at hv
    cases hv
    exact rp
/-- a slot's own object is written -/
theorem Rel.write (R : Rel K E F H σ a) {i : Nat} {av : AV} {p : Addr} {o : HO} {c : D} (h : a[i]? = some (some av)) (ho : av.o ≠ .no) (hs : σ[i]? = some (some (.ref p))) (t : Top K F o c) :
    Rel K E F (upd H p o) σ (a.set i (some ⟨av.o, c⟩)) := by
  have hi : i < a.length := (List.getElem?_eq_some_iff.mp h).1
  have hF : F p = none := R.owned_f ⟨i, av, h, ho, hs⟩
  have hH : H p ≠ none := R.owned_h ⟨i, av, h, ho, hs⟩
  refine ⟨fun b u e => ?_, R.f0, R.new, fun b u e l => ?_, fun b e => ?_, R.lt, by rw [List.length_set]; exact R.len, fun j aj e => ?_, fun j k aj ak q hjk ej ek oj ok sj sk => ?_⟩
  · rw [upd_ne (ne_of_none e hF)]; exact R.ext _ _ e
  · have : b ≠ p := fun z => by
      subst z
      obtain ⟨v, e1, q⟩ := R.sl i av h
      rw [hs] at e1
      cases e1
      unfold OwnAt at q
      obtain ⟨ow, c'⟩ := av
      cases ow with
      | no => exact ho rfl
      | own => obtain ⟨r, e2, _, h2, _⟩ := q; cases e2; rw [h2] at e; cases e
      | lent => obtain ⟨r, e2, _, h2, _⟩ := q; cases e2; exact l h2
    rw [upd_ne this]; exact R.keep _ _ e l
  · by_cases hb : b = p
    · subst hb; rw [upd_same] at e; cases e
    · rw [upd_ne hb] at e; exact R.dom _ e
  · by_cases hj : j = i
    · subst hj
      rw [List.getElem?_set_self hi] at e
      cases e
      obtain ⟨v, e1, q⟩ := R.sl j av h
      rw [hs] at e1
      cases e1
      refine ⟨_, hs, ?_⟩
      unfold OwnAt at *
      obtain ⟨ow, c'⟩ := av
      cases ow with
      | no => exact absurd rfl ho
      | own => obtain ⟨r, e2, h1, h2, _⟩ := q; cases e2; exact ⟨_, rfl, h1, h2, _, upd_same, t⟩
      | lent => obtain ⟨r, e2, h1, h2, h5, _⟩ := q; cases e2; exact ⟨_, rfl, h1, h2, h5, _, upd_same, t⟩
    · rw [List.getElem?_set_ne (Ne.symm hj)] at e
      obtain ⟨v, e2, q⟩ := R.sl j aj e
      refine ⟨v, e2, ?_⟩
      by_cases hn : aj.o = .no
      · obtain ⟨ow, c'⟩ := aj
        obtain rfl : ow = .no := hn
        exact q
      · have hne : ∀ b, v = .ref b → b ≠ p := fun b hb z => R.dis j i aj av p hj e h hn ho (by rw [e2, hb, z]) hs
        unfold OwnAt at *
        obtain ⟨ow, c'⟩ := aj
        cases ow with
        | no => exact absurd rfl hn
        | own => obtain ⟨b, rfl, h1, h2, u, h3, h4⟩ := q; exact ⟨b, rfl, h1, h2, u, by rw [upd_ne (hne b rfl)]; exact h3, h4⟩
        | lent => obtain ⟨b, rfl, h1, h2, h5, u, h3, h4⟩ := q; exact ⟨b, rfl, h1, h2, h5, u, by rw [upd_ne (hne b rfl)]; exact h3, h4⟩
  · have f : ∀ (j : Nat) (aj : AV), (a.set i (some ⟨av.o, c⟩))[j]? = some (some aj) → ∃ bj : AV, a[j]? = some (some bj) ∧ bj.o = aj.o := fun j aj e => by
      by_cases hj : j = i
      · subst hj
        rw [List.getElem?_set_self hi] at e
        cases e
        exact ⟨av, h, rfl⟩
      · rw [List.getElem?_set_ne (Ne.symm hj)] at e
        exact ⟨aj, e, rfl⟩
    obtain ⟨bj, fj, gj⟩ := f j aj ej
    obtain ⟨bk, fk, gk⟩ := f k ak ek
    exact R.dis j k bj bk q hjk fj fk (by rw [gj]; exact oj) (by rw [gk]; exact ok) sj sk
/-- a slot is stored, data -/
theorem Rel.setDat (R : Rel K E F H σ a) {i : Nat} {v : V} {d : D} (r : Rep K F v d) : Rel K E F H (σ.set i (some v)) (a.set i (some ⟨.no, d⟩)) := by
  refine ⟨R.ext, R.f0, R.new, R.keep, R.dom, R.lt, by rw [List.length_set, List.length_set]; exact R.len, fun j av e => ?_, fun j k aj ak q hjk ej ek oj ok sj sk => ?_⟩
  · by_cases hj : j = i
    · subst hj
      have hi : j < a.length := by
        have := (List.getElem?_eq_some_iff.mp e).1
        rwa [List.length_set] at this
      rw [List.getElem?_set_self hi] at e
      cases e
      exact ⟨v, List.getElem?_set_self (by rw [← R.len]; exact hi), r⟩
    · rw [List.getElem?_set_ne (Ne.symm hj)] at e
      obtain ⟨u, e2, q⟩ := R.sl j av e
      exact ⟨u, by rw [List.getElem?_set_ne (Ne.symm hj)]; exact e2, q⟩
  · have hne : ∀ j aj, (a.set i (some ⟨.no, d⟩))[j]? = some (some aj) → aj.o ≠ .no → j ≠ i := fun j aj e ho z => by
      subst z
      have hi : j < a.length := by
        have := (List.getElem?_eq_some_iff.mp e).1
        rwa [List.length_set] at this
      rw [List.getElem?_set_self hi] at e
      cases e
      exact ho rfl
    have nj := hne j aj ej oj
    have nk := hne k ak ek ok
    rw [List.getElem?_set_ne (Ne.symm nj)] at ej sj
    rw [List.getElem?_set_ne (Ne.symm nk)] at ek sk
    exact R.dis j k aj ak q hjk ej ek oj ok sj sk
/-- a slot is stored, a new object of one's own -/
theorem Rel.setNew (R : Rel K E F H σ a) {i : Nat} {p : Addr} {d : D} (hF : F p = none) (hE : E.H p = none) (t : TopAt K F H p d) (hn : ¬ Owned σ a p) : Rel K E F H (σ.set i (some (.ref p))) (a.set i (some ⟨.own, d⟩)) := by
  refine ⟨R.ext, R.f0, R.new, R.keep, R.dom, R.lt, by rw [List.length_set, List.length_set]; exact R.len, fun j av e => ?_, fun j k aj ak q hjk ej ek oj ok sj sk => ?_⟩
  · by_cases hj : j = i
    · subst hj
      have hi : j < a.length := by
        have := (List.getElem?_eq_some_iff.mp e).1
        rwa [List.length_set] at this
      rw [List.getElem?_set_self hi] at e
      cases e
      exact ⟨_, List.getElem?_set_self (by rw [← R.len]; exact hi), p, rfl, hF, hE, t⟩
    · rw [List.getElem?_set_ne (Ne.symm hj)] at e
      obtain ⟨u, e2, q⟩ := R.sl j av e
      exact ⟨u, by rw [List.getElem?_set_ne (Ne.symm hj)]; exact e2, q⟩
  · have hlt : ∀ j aj, (a.set i (some ⟨.own, d⟩))[j]? = some (some aj) → j < a.length := fun j aj e => by
      have := (List.getElem?_eq_some_iff.mp e).1
      rwa [List.length_set] at this
    by_cases hj : j = i
    · subst hj
      have hk : k ≠ j := Ne.symm hjk
      rw [List.getElem?_set_ne (Ne.symm hk)] at ek sk
      rw [List.getElem?_set_self (by rw [← R.len]; exact hlt j aj ej)] at sj
      cases sj
      exact hn ⟨k, ak, ek, ok, sk⟩
    · by_cases hk : k = i
      · subst hk
        rw [List.getElem?_set_ne (Ne.symm hj)] at ej sj
        rw [List.getElem?_set_self (by rw [← R.len]; exact hlt k ak ek)] at sk
        cases sk
        exact hn ⟨j, aj, ej, oj, sj⟩
      · rw [List.getElem?_set_ne (Ne.symm hj)] at ej sj
        rw [List.getElem?_set_ne (Ne.symm hk)] at ek sk
        exact R.dis j k aj ak q hjk ej ek oj ok sj sk
/-- a slot is forgotten -/
theorem Rel.forget (R : Rel K E F H σ a) (i : Nat) (u : Option V) : Rel K E F H (σ.set i u) (a.set i none) := by
  have hne : ∀ j aj, (a.set i none)[j]? = some (some aj) → j ≠ i := fun j aj e z => by
    subst z
    have hi : j < a.length := by
      have := (List.getElem?_eq_some_iff.mp e).1
      rwa [List.length_set] at this
    rw [List.getElem?_set_self hi] at e
    cases e
  refine ⟨R.ext, R.f0, R.new, R.keep, R.dom, R.lt, by rw [List.length_set, List.length_set]; exact R.len, fun j av e => ?_, fun j k aj ak q hjk ej ek oj ok sj sk => ?_⟩
  · have hj := hne j av e
    rw [List.getElem?_set_ne (Ne.symm hj)] at e
    obtain ⟨u, e2, q⟩ := R.sl j av e
    exact ⟨u, by rw [List.getElem?_set_ne (Ne.symm hj)]; exact e2, q⟩
  · have nj := hne j aj ej
    have nk := hne k ak ek
    rw [List.getElem?_set_ne (Ne.symm nj)] at ej sj
    rw [List.getElem?_set_ne (Ne.symm nk)] at ek sk
    exact R.dis j k aj ak q hjk ej ek oj ok sj sk
end
end DS

namespace DS
open PySem PySem.Spec PyProof.Rows L2

abbrev WE := PSt → (Res → PSt → Prop) → (Exc → PSt → Prop) → Prop
abbrev WT := PSt → (Bool → PSt → Prop) → (Exc → PSt → Prop) → Prop
abbrev WA := PSt → (List Res → PSt → Prop) → (Exc → PSt → Prop) → Prop

def ExcR (K : PySem.W.Frag) (F H : Hp) (x : Exc) (cls : Value) (dx : Option Addr) : Prop :=
  (∃ C, NmC K x.C C ∧ cls = .ref C) ∧ match dx with
    | none => x.fs = []
    | some d => ∃ fs, F d = some (.xd fs) ∧ RepA K F fs x.fs
def Ln (K : PySem.W.Frag) (E : En) (F : Hp) (σ : L2.St) (q : Res → PSt → Prop) (Q : VK) : Prop :=
  ∀ v r F' H' a', Same F F' → Rel K E F' H' σ a' → RepR K E F' H' σ a' v r → q r a' → Q v H'
def Lx (K : PySem.W.Frag) (E : En) (F : Hp) (σ : L2.St) (qe : Exc → PSt → Prop) (W : XK) : Prop :=
  ∀ x a' cls dx F' H', Same F F' → Rel K E F' H' σ a' → ExcR K F' H' x cls dx → qe x a' → W cls dx H'
def Lt (K : PySem.W.Frag) (E : En) (F : Hp) (σ : L2.St) (q : Bool → PSt → Prop) (Q : Bool → Hp → Prop) : Prop :=
  ∀ b F' H' a', Same F F' → Rel K E F' H' σ a' → q b a' → Q b H'
abbrev RepRs (K : PySem.W.Frag) (E : En) (F H : Hp) (σ : L2.St) (a : PSt) : List V → List Res → Prop := Paired (RepR K E F H σ a)
def La (K : PySem.W.Frag) (E : En) (F : Hp) (σ : L2.St) (q : List Res → PSt → Prop) (Q : List V → Hp → Prop) : Prop :=
  ∀ vs rs F' H' a', Same F F' → Rel K E F' H' σ a' → RepRs K E F' H' σ a' vs rs → (∀ r ∈ rs, ∀ d, r ≠ .new d) → q rs a' → Q vs H'
theorem Ln.to {K : PySem.W.Frag} {E : En} {F F' : Hp} {σ : L2.St} {q : Res → PSt → Prop} {Q : VK} (l : Ln K E F σ q Q) (e : Same F F') : Ln K E F' σ q Q :=
  fun v r F2 H2 a2 e2 => l v r F2 H2 a2 (e.trans e2)
theorem Lx.to {K : PySem.W.Frag} {E : En} {F F' : Hp} {σ : L2.St} {q : Exc → PSt → Prop} {Q : XK} (l : Lx K E F σ q Q) (e : Same F F') : Lx K E F' σ q Q :=
  fun x a2 c dx F2 H2 e2 => l x a2 c dx F2 H2 (e.trans e2)
theorem Lt.to {K : PySem.W.Frag} {E : En} {F F' : Hp} {σ : L2.St} {q : Bool → PSt → Prop} {Q : Bool → Hp → Prop} (l : Lt K E F σ q Q) (e : Same F F') : Lt K E F' σ q Q :=
  fun b F2 H2 a2 e2 => l b F2 H2 a2 (e.trans e2)
theorem La.to {K : PySem.W.Frag} {E : En} {F F' : Hp} {σ : L2.St} {q : List Res → PSt → Prop} {Q : List V → Hp → Prop} (l : La K E F σ q Q) (e : Same F F') : La K E F' σ q Q :=
  fun vs rs F2 H2 a2 e2 => l vs rs F2 H2 a2 (e.trans e2)

/-! ### one way on, if the data are of the kind -/
def onO {α : Type} (o : Option α) (f : α → Prop) : Prop := match o with
  | some d => f d
  | none => False
theorem onO_iff {α : Type} {o : Option α} {f : α → Prop} : onO o f ↔ ∃ d, o = some d ∧ f d := by
  cases o <;> simp [onO]
theorem onO_of {α : Type} {o : Option α} {f : α → Prop} {d : α} (h : o = some d) (hf : f d) : onO o f := by rw [h]; exact hf
def onS (o : Option (Option AV)) (f : AV → Prop) : Prop := match o with
  | some (some d) => f d
  | _ => False
theorem onS_iff {o : Option (Option AV)} {f : AV → Prop} : onS o f ↔ ∃ d, o = some (some d) ∧ f d := by
  unfold onS
  split
  · exact ⟨fun h => ⟨_, rfl, h⟩, fun ⟨k, e, h⟩ => by cases e; exact h⟩
  · rename_i hno
    exact ⟨fun h => h.elim, fun ⟨k, e, h⟩ => (hno k e).elim⟩
def onB (o : Option D) (f : Bool → Prop) : Prop := match o with
  | some (.bl b) => f b
  | _ => False
theorem onB_iff {o : Option D} {f : Bool → Prop} : onB o f ↔ ∃ k, o = some (.bl k) ∧ f k := by
  unfold onB
  split
  · exact ⟨fun h => ⟨_, rfl, h⟩, fun ⟨k, e, h⟩ => by cases e; exact h⟩
  · rename_i hno
    exact ⟨fun h => h.elim, fun ⟨k, e, h⟩ => (hno k e).elim⟩
def onI (o : Option D) (f : Int → Prop) : Prop := match o with
  | some (.int b) => f b
  | _ => False
theorem onI_iff {o : Option D} {f : Int → Prop} : onI o f ↔ ∃ k, o = some (.int k) ∧ f k := by
  unfold onI
  split
  · exact ⟨fun h => ⟨_, rfl, h⟩, fun ⟨k, e, h⟩ => by cases e; exact h⟩
  · rename_i hno
    exact ⟨fun h => h.elim, fun ⟨k, e, h⟩ => (hno k e).elim⟩
def onLst (o : Option D) (f : List D → Prop) : Prop := match o with
  | some (.lst xs) => f xs
  | _ => False
theorem onLst_iff {o : Option D} {f : List D → Prop} : onLst o f ↔ ∃ xs, o = some (.lst xs) ∧ f xs := by
  unfold onLst
  split
  · exact ⟨fun h => ⟨_, rfl, h⟩, fun ⟨k, e, h⟩ => by cases e; exact h⟩
  · rename_i hno
    exact ⟨fun h => h.elim, fun ⟨k, e, h⟩ => (hno k e).elim⟩
def onOwn (x : Option (Option AV)) (f : Ow → List D → Prop) : Prop := match x with
  | some (some ⟨.own, .lst xs⟩) => f .own xs
  | some (some ⟨.lent, .lst xs⟩) => f .lent xs
  | _ => False
theorem onOwn_iff {x : Option (Option AV)} {f : Ow → List D → Prop} : onOwn x f ↔ ∃ o xs, x = some (some ⟨o, .lst xs⟩) ∧ o ≠ .no ∧ f o xs := by
  unfold onOwn
  split
  · exact ⟨fun h => ⟨_, _, rfl, by simp, h⟩, fun ⟨o, xs, e, _, h⟩ => by cases e; exact h⟩
  · exact ⟨fun h => ⟨_, _, rfl, by simp, h⟩, fun ⟨o, xs, e, _, h⟩ => by cases e; exact h⟩
  · rename_i h1 h2
    refine ⟨fun h => h.elim, fun ⟨o, xs, e, ho, h⟩ => ?_⟩
    cases o with
    | no => exact ho rfl
    | own => exact h1 xs e
    | lent => exact h2 xs e
def on1 (o : Option (List D)) (f : Int → Prop) : Prop := match o with
  | some [.int j] => f j
  | _ => False
theorem on1_iff {o : Option (List D)} {f : Int → Prop} : on1 o f ↔ ∃ j, o = some [.int j] ∧ f j := by
  unfold on1
  split
  · exact ⟨fun h => ⟨_, rfl, h⟩, fun ⟨k, e, h⟩ => by cases e; exact h⟩
  · rename_i hno
    exact ⟨fun h => h.elim, fun ⟨k, e, h⟩ => (hno k e).elim⟩
def on2 (o : Option (List D)) (f : Int → Int → Prop) : Prop := match o with
  | some [.int i, .int j] => f i j
  | _ => False
theorem on2_iff {o : Option (List D)} {f : Int → Int → Prop} : on2 o f ↔ ∃ i j, o = some [.int i, .int j] ∧ f i j := by
  unfold on2
  split
  · exact ⟨fun h => ⟨_, _, rfl, h⟩, fun ⟨i, k, e, h⟩ => by cases e; exact h⟩
  · rename_i hno
    exact ⟨fun h => h.elim, fun ⟨i, k, e, h⟩ => (hno i k e).elim⟩
/-- two ways -/
def br (b : Bool) (A B : Prop) : Prop := match b with
  | true => A
  | false => B
theorem br_tt {b : Bool} {A B : Prop} (h : br b A B) (e : b = true) : A := by rw [e] at h; exact h
theorem br_ff {b : Bool} {A B : Prop} (h : br b A B) (e : b = false) : B := by rw [e] at h; exact h
theorem br_i {p A B : Prop} [Decidable p] (h1 : p → A) (h2 : ¬ p → B) : br (decide p) A B := by
  by_cases h : p
  · rw [decide_eq_true h]; exact h1 h
  · rw [decide_eq_false h]; exact h2 h
theorem br_b {b : Bool} {A B : Prop} (h1 : b = true → A) (h2 : b = false → B) : br b A B := by
  cases b
  · exact h2 rfl
  · exact h1 rfl
theorem br_t {p A B : Prop} [Decidable p] (h : p) (a : A) : br (decide p) A B := br_i (fun _ => a) fun n => absurd h n
theorem br_f {p A B : Prop} [Decidable p] (h : ¬ p) (b : B) : br (decide p) A B := br_i (fun n => absurd n h) fun _ => b
theorem br_ni {p A B : Prop} [Decidable p] (h1 : ¬ p → A) (h2 : p → B) : br (!decide p) A B := by
  by_cases h : p
  · rw [decide_eq_true h]; exact h2 h
  · rw [decide_eq_false h]; exact h1 h
theorem br_nt {p A B : Prop} [Decidable p] (h : p) (b : B) : br (!decide p) A B := br_ni (fun n => absurd h n) fun _ => b
theorem br_nf {p A B : Prop} [Decidable p] (h : ¬ p) (a : A) : br (!decide p) A B := br_ni (fun _ => a) fun n => absurd n h

/-- an expression does to data what w says -/
def SE (X : Cx) (W : L2.St → XK) (e : Expr) (t : TE) (w : WE) : Prop := PE X e t ∧ ∀ E F H σ a Q q qe, Rel X.K E F H σ a → w a q qe → Ln X.K E F σ q Q → Lx X.K E F σ qe (W σ) → t σ H Q
def ST (X : Cx) (W : L2.St → XK) (e : Expr) (t : TT) (w : WT) : Prop := PT X e t ∧ ∀ E F H σ a Q q qe, Rel X.K E F H σ a → w a q qe → Lt X.K E F σ q Q → Lx X.K E F σ qe (W σ) → t σ H Q
def SW (X : Cx) (W : L2.St → XK) (e : Expr) (t : TT) (w : WT) : Prop := PW X e t ∧ ∀ E F H σ a Q q qe, Rel X.K E F H σ a → w a q qe → Lt X.K E F σ q Q → Lx X.K E F σ qe (W σ) → t σ H Q
def SA (X : Cx) (W : L2.St → XK) (es : List Expr) (t : TA) (w : WA) : Prop := PA X es t ∧ ∀ E F H σ a Q q qe, Rel X.K E F H σ a → w a q qe → La X.K E F σ q Q → Lx X.K E F σ qe (W σ) → t σ H Q

def hold : Res → Res
  | .new d => .dat d
  | r => r
/-- what a result is worth now -/
def con (a : PSt) : Res → Option D
  | .dat d => some d
  | .new d => some d
  | .slot i => match a[i]? with
    | some (some av) => some av.c
    | _ => none
/-- a result is handed on for good -/
def fz (r : Res) (a : PSt) (q : D → PSt → Prop) : Prop := match r with
  | .dat d => q d a
  | .new d => q d a
  | .slot i => match a[i]? with
    | some (some ⟨.no, c⟩) => q c a
    | some (some ⟨.own, c⟩) => q c (a.set i (some ⟨.no, c⟩))
    | _ => False
def RdD (K : PySem.W.Frag) (F H : Hp) (v : V) (d : D) : Prop := Rep K F v d ∨ ∃ p, v = .ref p ∧ TopAt K F H p d

section
variable {K : PySem.W.Frag} {E : En} {F F' H H' : Hp} {σ : L2.St} {a : PSt} {v : V} {r : Res}
theorem hold_ok (R : Rel K E F H σ a) (h : RepR K E F H σ a v r) : ∃ F2, Same F F2 ∧ Rel K E F2 H σ a ∧ RepR K E F2 H σ a v (hold r) := by
  cases r with
  | dat d => exact ⟨F, Same.refl F, R, h⟩
  | slot i => exact ⟨F, Same.refl F, R, h⟩
  | new d =>
    obtain ⟨p, rfl, h1, h2, ⟨o, h3, h4⟩, h5⟩ := h
    obtain ⟨s, R2⟩ := R.freeze h3 h1 h2 h5
    exact ⟨_, s, R2, h4.rep s upd_same⟩
theorem hold_new {r : Res} {d : D} : hold r ≠ .new d := by
  cases r <;> exact fun z => by cases z
/-- a held result stays over what comes -/
theorem held_on {a' : PSt} (e : Same F F') (h : RepR K E F H σ a v (hold r)) : RepR K E F' H' σ a' v (hold r) := by
  cases r with
  | dat d => exact Rep.mono e h
  | slot i => exact h
  | new d => exact Rep.mono e h
theorem res_on {a' : PSt} (e : Same F F') (hn : ∀ d, r ≠ .new d) (h : RepR K E F H σ a v r) : RepR K E F' H' σ a' v r := by
  cases r with
  | dat d => exact Rep.mono e h
  | slot i => exact h
  | new d => exact absurd rfl (hn d)
theorem rd_of (R : Rel K E F H σ a) (h : RepR K E F H σ a v r) {d : D} (c : con a r = some d) : RdD K F H v d := by
  cases r with
  | dat x => cases c; exact .inl h
  | new x =>
    cases c
    obtain ⟨p, rfl, h1, h2, h3, h5⟩ := h
    exact .inr ⟨p, rfl, h3⟩
  | slot i =>
    simp only [con] at c
    split at c
    · rename_i av e
      cases c
      obtain ⟨u, e1, q⟩ := R.sl i av e
      have hv : σ[i]? = some (some v) := h
      rw [e1] at hv
      cases hv
      obtain ⟨o, c⟩ := av
      cases o with
      | no => exact .inl q
      | own => obtain ⟨p, rfl, _, _, h3⟩ := q; exact .inr ⟨p, rfl, h3⟩
      | lent => obtain ⟨p, rfl, _, _, _, h3⟩ := q; exact .inr ⟨p, rfl, h3⟩
    · cases c
theorem fz_ok (R : Rel K E F H σ a) (h : RepR K E F H σ a v r) {q : D → PSt → Prop} (c : fz r a q) : ∃ F2 a2 d, Same F F2 ∧ Rel K E F2 H σ a2 ∧ Rep K F2 v d ∧ q d a2 := by
  cases r with
  | dat x => exact ⟨F, a, x, Same.refl F, R, h, c⟩
  | new x =>
    obtain ⟨F2, s, R2, h2⟩ := hold_ok R h
    exact ⟨F2, a, x, s, R2, h2, c⟩
  | slot i =>
    have hv : σ[i]? = some (some v) := h
    simp only [fz] at c
    split at c
    · rename_i x e
      obtain ⟨u, e1, q'⟩ := R.sl i _ e
      rw [e1] at hv
      cases hv
      exact ⟨F, a, x, Same.refl F, R, q', c⟩
    · rename_i x e
      obtain ⟨F2, s, R2, h2⟩ := R.giveUp e
      exact ⟨F2, _, x, s, R2, h2 v hv, c⟩
    · exact c.elim
theorem RepRs.on {K : PySem.W.Frag} {E : En} {F F' H H' : Hp} {σ : L2.St} {a a' : PSt} (e : Same F F') : ∀ {vs : List V} {rs : List Res}, RepRs K E F H σ a vs rs → (∀ r ∈ rs, ∀ d, r ≠ .new d) → RepRs K E F' H' σ a' vs rs
  | _, _, .nil, _ => .nil
  | _, _, .cons h t, hn => .cons (res_on e (hn _ List.mem_cons_self) h) (RepRs.on e t fun r hr => hn r (List.mem_cons_of_mem _ hr))
/-- .. several, one after another -/
def fzs : List Res → PSt → (List D → PSt → Prop) → Prop
  | [], a, q => q [] a
  | r :: rs, a, q => fz r a fun d a1 => fzs rs a1 fun ds a2 => q (d :: ds) a2
theorem fzs_ok : ∀ {rs : List Res} {vs : List V} {F H : Hp} {a : PSt} {q : List D → PSt → Prop}, Rel K E F H σ a → RepRs K E F H σ a vs rs → (∀ r ∈ rs, ∀ d, r ≠ .new d) → fzs rs a q →
    ∃ F2 a2 ds, Same F F2 ∧ Rel K E F2 H σ a2 ∧ Reps K F2 vs ds ∧ q ds a2
  | _, _, F, _, a, _, R, .nil, _, c => ⟨F, a, [], Same.refl F, R, .nil, c⟩
  | _, _, F, H, a, q, R, .cons h t, hn, c => by
    obtain ⟨F1, a1, d, s1, R1, h1, c1⟩ := fz_ok R h c
    have t1 := RepRs.on (H' := H) (a' := a1) s1 t fun r hr => hn r (List.mem_cons_of_mem _ hr)
    obtain ⟨F2, a2, ds, s2, R2, h2, c2⟩ := fzs_ok R1 t1 (fun r hr => hn r (List.mem_cons_of_mem _ hr)) c1
    exact ⟨F2, a2, d :: ds, s1.trans s2, R2, .cons (h1.mono s2) h2, c2⟩

/-! what is read off data -/
theorem RdD.int {i : Int} (h : RdD K F H v (.int i)) : v = .int i := by
  rcases h with h | ⟨p, _, o, _, t⟩
  · cases h; rfl
  · cases t
theorem RdD.str {i : Str} (h : RdD K F H v (.str i)) : v = .str i := by
  rcases h with h | ⟨p, _, o, _, t⟩
  · cases h; rfl
  · cases t
theorem RdD.bl {i : Bool} (h : RdD K F H v (.bl i)) : v = .bl i := by
  rcases h with h | ⟨p, _, o, _, t⟩
  · cases h; rfl
  · cases t
theorem RdD.non (h : RdD K F H v .non) : v = .non := by
  rcases h with h | ⟨p, _, o, _, t⟩
  · cases h; rfl
  · cases t
theorem RdD.ty {n : TyN} (h : RdD K F H v (.ty n)) : v = .ty n.s := by
  rcases h with h | ⟨p, _, o, _, t⟩
  · cases h; rfl
  · cases t
theorem RdD.lst {ds : List D} (e : Same F H) (h : RdD K F H v (.lst ds)) : ∃ p vs, v = .ref p ∧ H p = some (.lst vs) ∧ Reps K F vs ds := by
  rcases h with h | ⟨p, rfl, o, h, t⟩
  · cases h with
    | lst h r => exact ⟨_, _, rfl, e _ _ h, r⟩
  · cases t with
    | lst r => exact ⟨_, _, rfl, h, r⟩
theorem RdD.rol {ds : List D} (e : Same F H) (h : RdD K F H v (.rol ds)) : ∃ p vs, v = .ref p ∧ SqL K H p vs ∧ Reps K F vs ds := by
  rcases h with h | ⟨p, rfl, o, h, t⟩
  · cases h with
    | rol h r => exact ⟨_, _, rfl, e.seq h, r⟩
  · cases t
theorem RdD.tup {ds : List D} (e : Same F H) (h : RdD K F H v (.tup ds)) : ∃ p vs, v = .ref p ∧ H p = some (.tup vs) ∧ Reps K F vs ds := by
  rcases h with h | ⟨p, rfl, o, h, t⟩
  · cases h with
    | tup h r => exact ⟨_, _, rfl, e _ _ h, r⟩
  · cases t
theorem RdD.rot {ds : List D} (e : Same F H) (h : RdD K F H v (.rot ds)) : ∃ p vs, v = .ref p ∧ SqT K H p vs ∧ Reps K F vs ds := by
  rcases h with h | ⟨p, rfl, o, h, t⟩
  · cases h with
    | rot h r => exact ⟨_, _, rfl, same_seqT e h, r⟩
  · cases t
theorem RdD.dK {ds : List (Key × D)} (e : Same F H) (h : RdD K F H v (.dK ds)) : ∃ p vs, v = .ref p ∧ H p = some (.dK vs) ∧ RepA K F vs ds := by
  rcases h with h | ⟨p, rfl, o, h, t⟩
  · cases h with
    | dK h r => exact ⟨_, _, rfl, e _ _ h, r⟩
  · cases t with
    | dK r => exact ⟨_, _, rfl, h, r⟩
theorem RdD.dT {ds : List (List Key × D)} (e : Same F H) (h : RdD K F H v (.dT ds)) : ∃ p vs, v = .ref p ∧ H p = some (.dT vs) ∧ RepA K F vs ds := by
  rcases h with h | ⟨p, rfl, o, h, t⟩
  · cases h with
    | dT h r => exact ⟨_, _, rfl, e _ _ h, r⟩
  · cases t with
    | dT r => exact ⟨_, _, rfl, h, r⟩
theorem RdD.ins {x : CN} {ds : List (Str × D)} (e : Same F H) (h : RdD K F H v (.ins x ds)) : ∃ p C dx vs, v = .ref p ∧ NmC K x C ∧ H p = some (.ins C dx vs) ∧ RepA K F vs ds := by
  rcases h with h | ⟨p, rfl, o, h, t⟩
  · cases h with
    | ins n h r => exact ⟨_, _, _, _, rfl, n, e _ _ h, r⟩
  · cases t with
    | ins n r => exact ⟨_, _, _, _, rfl, n, h, r⟩
/-- a list or a tuple, read -/
def seqOf : D → Option (List D)
  | .lst xs => some xs
  | .rol xs => some xs
  | .tup xs => some xs
  | .rot xs => some xs
  | _ => none
theorem RdD.seq {d : D} {ds : List D} (e : Same F H) (h : RdD K F H v d) (s : seqOf d = some ds) : ∃ p vs, v = .ref p ∧ (SqL K H p vs ∨ SqT K H p vs) ∧ Reps K F vs ds := by
  cases d with
  | lst xs => cases s; obtain ⟨p, vs, h1, h2, h3⟩ := h.lst e; exact ⟨p, vs, h1, .inl (.of h2), h3⟩
  | rol xs => cases s; obtain ⟨p, vs, h1, h2, h3⟩ := h.rol e; exact ⟨p, vs, h1, .inl h2, h3⟩
  | tup xs => cases s; obtain ⟨p, vs, h1, h2, h3⟩ := h.tup e; exact ⟨p, vs, h1, .inr (.of h2), h3⟩
  | rot xs => cases s; obtain ⟨p, vs, h1, h2, h3⟩ := h.rot e; exact ⟨p, vs, h1, .inr h2, h3⟩
  | _ => cases s
end

section
variable {X : Cx} {W : L2.St → XK} {ta tb tc : TE} {ua ub : TT} {la : TA} {e a b c : Expr} {pos : Pos} {w w1 w2 w3 : WE}
/-! ### names and constants -/
def wVar (i : Nat) : WE := fun a q _ => onS a[i]? fun _ => q (.slot i) a
def wC (d : D) : WE := fun a q _ => q (.dat d) a
theorem se_var {i : Nat} (h : PE X e (tVar i)) : SE X W e (tVar i) (wVar i) := ⟨h, fun E F H σ a Q q qe R hw l _ => by
  obtain ⟨av, h1, h2⟩ := onS_iff.mp hw
  obtain ⟨v, e1, _⟩ := R.sl i av h1
  exact ⟨v, e1, l v (.slot i) F H a (Same.refl F) R e1 h2⟩⟩
theorem se_c {v : V} {d : D} (h : PE X e (tC v)) (r : ∀ F, Rep X.K F v d) : SE X W e (tC v) (wC d) := ⟨h, fun E F H σ a Q q qe R h2 l _ => l v (.dat d) F H a (Same.refl F) R (r F) h2⟩
theorem se_int {i j pos} : SE X W (.Constant (.int i) j pos) (tC (.int i)) (wC (.int i)) := se_c pe_int fun _ => .int i
theorem se_bl {b j pos} : SE X W (.Constant (.bool b) j pos) (tC (.bl b)) (wC (.bl b)) := se_c pe_bl fun _ => .bl b
theorem se_non {j pos} : SE X W (.Constant .none j pos) (tC .non) (wC .non) := se_c pe_non fun _ => .non
theorem se_str {x j pos} : SE X W (.Constant (.str x) j pos) (tC (.str x)) (wC (.str x)) := se_c pe_str fun _ => .str x
/-- a constant int of a module -/
theorem se_globI {x : Str} {i : Int} {t : Tok} {pos : Pos} (hg : Gl X x) (hm : X.mg x = some (.int i t)) (hd : (x == ("__debug__" : Str)) = false := by decide) : SE X W (.Name x pos) (tC (.int i)) (wC (.int i)) := se_c (v := .int i) (pe_glob hg hm ⟨_, rfl⟩ hd) fun _ => .int i
theorem se_globS {x : Str} {i : Str} {t : Tok} {pos : Pos} (hg : Gl X x) (hm : X.mg x = some (.str i t)) (hd : (x == ("__debug__" : Str)) = false := by decide) : SE X W (.Name x pos) (tC (.str i)) (wC (.str i)) := se_c (v := .str i) (pe_glob hg hm ⟨_, rfl⟩ hd) fun _ => .str i
/-- a built-in class as a value -/
theorem se_ty {x : Str} {n : TyN} {pos : Pos} (hg : Gl X x) (hm : X.mg x = none) (hv : bootBuiltins x = some (.type n.s)) (hn : x ≠ "__name__" := by decide) (hd : (x == ("__debug__" : Str)) = false := by decide) : SE X W (.Name x pos) (tC (.ty n.s)) (wC (.ty n)) :=
  se_c (v := .ty n.s) (pe_bltn hg hm hv rfl hn hd) fun _ => .ty n

/-! ### operators -/
def wBin (op : D → D → (Res → Prop) → Prop) (w1 w2 : WE) : WE := fun a q qe =>
  w1 a (fun r1 a1 => w2 a1 (fun r2 a2 => onO (con a2 (hold r1)) fun x => onO (con a2 r2) fun y => op x y fun r => q r a2) qe) qe
def OpS (K : PySem.W.Frag) (r : R2) (op : D → D → (Res → Prop) → Prop) : Prop :=
  ∀ E F H σ a v1 v2 x y Q k, Rel K E F H σ a → RdD K F H v1 x → RdD K F H v2 y → op x y k → (∀ v r F' H', Same F F' → Rel K E F' H' σ a → RepR K E F' H' σ a v r → k r → Q v H') → r v1 v2 H Q
theorem bin_ok {r : R2} {op : D → D → (Res → Prop) → Prop} (hs : OpS X.K r op) {ta tb : TE} (p1 : ∀ E F H σ a Q q qe, Rel X.K E F H σ a → w1 a q qe → Ln X.K E F σ q Q → Lx X.K E F σ qe (W σ) → ta σ H Q)
    (p2 : ∀ E F H σ a Q q qe, Rel X.K E F H σ a → w2 a q qe → Ln X.K E F σ q Q → Lx X.K E F σ qe (W σ) → tb σ H Q) :
    ∀ E F H σ a Q q qe, Rel X.K E F H σ a → wBin op w1 w2 a q qe → Ln X.K E F σ q Q → Lx X.K E F σ qe (W σ) → tOp r ta tb σ H Q := by
  intro E F H σ a Q q qe R hw l lx
  refine p1 E F H σ a _ _ qe R hw (fun v1 r1 F1 H1 a1 s1 R1 rp1 hw1 => ?_) lx
  obtain ⟨F1', s1', R1', rp1'⟩ := hold_ok R1 rp1
  refine p2 E F1' H1 σ a1 _ _ qe R1' hw1 (fun v2 r2 F2 H2 a2 s2 R2 rp2 hw2 => ?_) (lx.to (s1.trans s1'))
  obtain ⟨x, c1, hw2⟩ := onO_iff.mp hw2
  obtain ⟨y, c2, ho⟩ := onO_iff.mp hw2
  refine hs E F2 H2 σ a2 v1 v2 x y Q _ R2 (rd_of R2 (held_on s2 rp1') c1) (rd_of R2 rp2 c2) ho fun v r F3 H3 s3 R3 rp3 k => ?_
  exact l v r F3 H3 a2 (((s1.trans s1').trans s2).trans s3) R3 rp3 k
theorem se_op {o : Operator} {r : R2} {op : D → D → (Res → Prop) → Prop} (ho : OpR X (binaryOp o) r) (hs : OpS X.K r op) (h1 : SE X W a ta w1) (h2 : SE X W b tb w2) : SE X W (.BinOp a o b pos) (tOp r ta tb) (wBin op w1 w2) := by
  obtain ⟨pa, sa⟩ := id h1
  obtain ⟨pb, sb⟩ := id h2
  exact ⟨pe_op ho pa pb, bin_ok hs sa sb⟩
theorem se_cmp {o : CmpOp} {r : R2} {op : D → D → (Res → Prop) → Prop} (ho : OpR X (compareOp o) r) (hs : OpS X.K r op) (h1 : SE X W a ta w1) (h2 : SE X W b tb w2) (hm : behindInMarks o b = false) : SE X W (.Compare a [o] [b] pos) (tOp r ta tb) (wBin op w1 w2) := by
  obtain ⟨pa, sa⟩ := id h1
  obtain ⟨pb, sb⟩ := id h2
  exact ⟨pe_cmpR ho pa pb hm, bin_ok hs sa sb⟩
/-- a value as a test: it is a bool -/
def wTst (w : WE) : WT := fun a q qe => w a (fun r a1 => onB (con a1 r) fun k => q k a1) qe
theorem tst_ok {ta : TE} (p : ∀ E F H σ a Q q qe, Rel X.K E F H σ a → w a q qe → Ln X.K E F σ q Q → Lx X.K E F σ qe (W σ) → ta σ H Q) :
    ∀ E F H σ a Q q qe, Rel X.K E F H σ a → wTst w a q qe → Lt X.K E F σ q Q → Lx X.K E F σ qe (W σ) → tTest ta σ H Q := by
  intro E F H σ a Q q qe R hw l lx
  refine p E F H σ a _ _ qe R hw (fun v1 r1 F1 H1 a1 s1 R1 rp1 hw1 => ?_) lx
  obtain ⟨k, c, hq⟩ := onB_iff.mp hw1
  exact ⟨k, (rd_of R1 rp1 c).bl, l k F1 H1 a1 s1 R1 hq⟩
theorem st_cmp {o : CmpOp} {r : R2} {op : D → D → (Res → Prop) → Prop} (ho : OpR X (compareOp o) r) (hs : OpS X.K r op) (h1 : SE X W a ta w1) (h2 : SE X W b tb w2) (hm : behindInMarks o b = false) : ST X W (.Compare a [o] [b] pos) (tTest (tOp r ta tb)) (wTst (wBin op w1 w2)) := by
  obtain ⟨pa, sa⟩ := id h1
  obtain ⟨pb, sb⟩ := id h2
  exact ⟨pt_cmpR ho pa pb hm, tst_ok (bin_ok hs sa sb)⟩
theorem st_val (h : SE X W e ta w) (he : ∀ whole, isTrue e X.env whole = (do let v ← whole; standAt e.pos; holding [v] (truthy v)) := by intro _; rfl) : ST X W e (tB ta) (wTst w) := by
  obtain ⟨pa, sa⟩ := h
  exact ⟨pt_val pa he, tst_ok sa⟩
def wAnd (w1 w2 : WT) : WT := fun a q qe => w1 a (fun b a1 => br b (w2 a1 q qe) (q false a1)) qe
def wOr (w1 w2 : WT) : WT := fun a q qe => w1 a (fun b a1 => br b (q true a1) (w2 a1 q qe)) qe
def wNot (w1 : WT) : WT := fun a q qe => w1 a (fun b a1 => q (!b) a1) qe
theorem sw_and1 {w : WT} (h : ST X W a ua w) : SW X W (.BoolOp .And [a] pos) ua w := let ⟨p, s⟩ := h; ⟨pw_and1 p, s⟩
theorem sw_or1 {w : WT} (h : ST X W a ua w) : SW X W (.BoolOp .Or [a] pos) ua w := let ⟨p, s⟩ := h; ⟨pw_or1 p, s⟩
theorem sw_and {w1 w2 : WT} {rest : List Expr} (h1 : ST X W a ua w1) (h2 : SW X W (.BoolOp .And (b :: rest) pos) ub w2) : SW X W (.BoolOp .And (a :: b :: rest) pos) (tAnd ua ub) (wAnd w1 w2) := by
  obtain ⟨p1, s1⟩ := h1
  obtain ⟨p2, s2⟩ := h2
  refine ⟨pw_and p1 p2, fun E F H σ a Q q qe R hw l lx => s1 E F H σ a _ _ qe R hw (fun k F1 H1 a1 e1 R1 hq => ?_) lx⟩
  cases k with
  | true => exact s2 E F1 H1 σ a1 Q q qe R1 (br_tt hq rfl) (l.to e1) (lx.to e1)
  | false => exact l false F1 H1 a1 e1 R1 (br_ff hq rfl)
theorem sw_or {w1 w2 : WT} {rest : List Expr} (h1 : ST X W a ua w1) (h2 : SW X W (.BoolOp .Or (b :: rest) pos) ub w2) : SW X W (.BoolOp .Or (a :: b :: rest) pos) (tOr ua ub) (wOr w1 w2) := by
  obtain ⟨p1, s1⟩ := h1
  obtain ⟨p2, s2⟩ := h2
  refine ⟨pw_or p1 p2, fun E F H σ a Q q qe R hw l lx => s1 E F H σ a _ _ qe R hw (fun k F1 H1 a1 e1 R1 hq => ?_) lx⟩
  cases k with
  | false => exact s2 E F1 H1 σ a1 Q q qe R1 (br_ff hq rfl) (l.to e1) (lx.to e1)
  | true => exact l true F1 H1 a1 e1 R1 (br_tt hq rfl)
theorem SW.st {w : WT} (h : SW X W e ua w) : ST X W e ua w := let ⟨p, s⟩ := h; ⟨p.pt, s⟩
theorem st_not {w : WT} (h : ST X W a ua w) : ST X W (.UnaryOp .Not a pos) (tNot ua) (wNot w) := by
  obtain ⟨p1, s1⟩ := h
  exact ⟨pt_not p1, fun E F H σ a Q q qe R hw l lx => s1 E F H σ a _ _ qe R hw (fun k F1 H1 a1 e1 R1 hq => l (!k) F1 H1 a1 e1 R1 hq) lx⟩
/-- and, or as values, all but the last bools -/
def wAndV (w1 w2 : WE) : WE := fun a q qe => w1 a (fun r a1 => onB (con a1 r) fun k => br k (w2 a1 q qe) (q (.dat (.bl false)) a1)) qe
def wOrV (w1 w2 : WE) : WE := fun a q qe => w1 a (fun r a1 => onB (con a1 r) fun k => br k (q (.dat (.bl true)) a1) (w2 a1 q qe)) qe
def wNotV (w1 : WE) : WE := fun a q qe => w1 a (fun r a1 => onB (con a1 r) fun k => q (.dat (.bl (!k))) a1) qe
theorem se_one {op : BoolOp} (h : SE X W a ta w) : SE X W (.BoolOp op [a] pos) ta w := let ⟨p, s⟩ := h; ⟨pe_one p, s⟩
theorem se_and {rest : List Expr} (h1 : SE X W a ta w1) (h2 : SE X W (.BoolOp .And (b :: rest) pos) tb w2) : SE X W (.BoolOp .And (a :: b :: rest) pos) (tAndV ta tb) (wAndV w1 w2) := by
  obtain ⟨p1, s1⟩ := h1
  obtain ⟨p2, s2⟩ := h2
  refine ⟨pe_and p1 p2, fun E F H σ a Q q qe R hw l lx => s1 E F H σ a _ _ qe R hw (fun v1 r1 F1 H1 a1 e1 R1 rp hq => ?_) lx⟩
  obtain ⟨k, c, hb⟩ := onB_iff.mp hq
  refine ⟨k, (rd_of R1 rp c).bl, ?_⟩
  cases k with
  | true => exact s2 E F1 H1 σ a1 Q q qe R1 (br_tt hb rfl) (l.to e1) (lx.to e1)
  | false => exact l (.bl false) (.dat (.bl false)) F1 H1 a1 e1 R1 (.bl false) (br_ff hb rfl)
theorem se_or {rest : List Expr} (h1 : SE X W a ta w1) (h2 : SE X W (.BoolOp .Or (b :: rest) pos) tb w2) : SE X W (.BoolOp .Or (a :: b :: rest) pos) (tOrV ta tb) (wOrV w1 w2) := by
  obtain ⟨p1, s1⟩ := h1
  obtain ⟨p2, s2⟩ := h2
  refine ⟨pe_or p1 p2, fun E F H σ a Q q qe R hw l lx => s1 E F H σ a _ _ qe R hw (fun v1 r1 F1 H1 a1 e1 R1 rp hq => ?_) lx⟩
  obtain ⟨k, c, hb⟩ := onB_iff.mp hq
  refine ⟨k, (rd_of R1 rp c).bl, ?_⟩
  cases k with
  | false => exact s2 E F1 H1 σ a1 Q q qe R1 (br_ff hb rfl) (l.to e1) (lx.to e1)
  | true => exact l (.bl true) (.dat (.bl true)) F1 H1 a1 e1 R1 (.bl true) (br_tt hb rfl)
theorem se_not (h1 : SE X W a ta w1) : SE X W (.UnaryOp .Not a pos) (tNotV ta) (wNotV w1) := by
  obtain ⟨p1, s1⟩ := h1
  refine ⟨pe_not p1, fun E F H σ a Q q qe R hw l lx => s1 E F H σ a _ _ qe R hw (fun v1 r1 F1 H1 a1 e1 R1 rp hq => ?_) lx⟩
  obtain ⟨k, c, q1⟩ := onB_iff.mp hq
  exact ⟨k, (rd_of R1 rp c).bl, l (.bl (!k)) (.dat (.bl (!k))) F1 H1 a1 e1 R1 (.bl _) q1⟩
def wIfE (wt : WT) (w1 w2 : WE) : WE := fun a q qe => wt a (fun b a1 => br b (w1 a1 q qe) (w2 a1 q qe)) qe
theorem se_ifExp {wt : WT} (h : ST X W c ua wt) (h1 : SE X W a ta w1) (h2 : SE X W b tb w2) : SE X W (.IfExp c a b pos) (tIf ua ta tb) (wIfE wt w1 w2) := by
  obtain ⟨p, s⟩ := h
  obtain ⟨p1, s1⟩ := h1
  obtain ⟨p2, s2⟩ := h2
  refine ⟨pe_ifExp p p1 p2, fun E F H σ a Q q qe R hw l lx => s E F H σ a _ _ qe R hw (fun k F1 H1 a1 e1 R1 hq => ?_) lx⟩
  cases k with
  | true => exact s1 E F1 H1 σ a1 Q q qe R1 (br_tt hq rfl) (l.to e1) (lx.to e1)
  | false => exact s2 E F1 H1 σ a1 Q q qe R1 (br_ff hq rfl) (l.to e1) (lx.to e1)
def wUn (op : D → (Res → Prop) → Prop) (w1 : WE) : WE := fun a q qe => w1 a (fun r a1 => onO (con a1 r) fun x => op x fun r => q r a1) qe
def dNeg (x : D) (k : Res → Prop) : Prop := match x with
  | .int i => k (.dat (.int (-i)))
  | _ => False
theorem se_neg (h1 : SE X W a ta w1) : SE X W (.UnaryOp .USub a pos) (tUn (rU fun i => .int (-i)) ta) (wUn dNeg w1) := by
  obtain ⟨p1, s1⟩ := h1
  refine ⟨pe_un un_neg p1, fun E F H σ a Q q qe R hw l lx => s1 E F H σ a _ _ qe R hw (fun v1 r1 F1 H1 a1 e1 R1 rp hq => ?_) lx⟩
  obtain ⟨x, c, q1⟩ := onO_iff.mp hq
  cases x with
  | int i => exact ⟨i, (rd_of R1 rp c).int, l (.int (-i)) (.dat (.int (-i))) F1 H1 a1 e1 R1 (.int _) q1⟩
  | _ => exact False.elim q1

/-! ### arguments, displays -/
def waNil : WA := fun a q _ => q [] a
def waCons (w : WE) (ws : WA) : WA := fun a q qe => w a (fun r a1 => ws a1 (fun rs a2 => q (hold r :: rs) a2) qe) qe
theorem sa_nil : SA X W [] tNil waNil := ⟨pa_nil, fun E F H σ a Q q qe R hw l lx => l [] [] F H a (Same.refl F) R .nil (fun r hr => by cases hr) hw⟩
theorem sa_cons {es : List Expr} {ws : WA} (h1 : SE X W e ta w) (h2 : SA X W es la ws) (hs : starEach (e :: es) X.env = (false, eval e X.env) :: starEach es X.env := by rfl) : SA X W (e :: es) (tCons ta la) (waCons w ws) := by
  obtain ⟨p1, s1⟩ := h1
  obtain ⟨p2, s2⟩ := h2
  refine ⟨pa_cons p1 p2 hs, fun E F H σ a Q q qe R hw l lx => s1 E F H σ a _ _ qe R hw (fun v1 r1 F1 H1 a1 e1 R1 rp hq => ?_) lx⟩
  obtain ⟨F1', e1', R1', rp'⟩ := hold_ok R1 rp
  refine s2 E F1' H1 σ a1 _ _ qe R1' hq (fun vs rs F2 H2 a2 e2 R2 rps hn hq2 => ?_) (lx.to (e1.trans e1'))
  refine l (v1 :: vs) (hold r1 :: rs) F2 H2 a2 ((e1.trans e1').trans e2) R2 (.cons (held_on e2 rp') rps) (fun r hr d => ?_) hq2
  rcases List.mem_cons.mp hr with rfl | hr
  · exact hold_new
  · exact hn r hr d
def wLst (ws : WA) : WE := fun a q qe => ws a (fun rs a1 => fzs rs a1 fun ds a2 => ds.length ≤ sizeLine ∧ q (.new (.lst ds)) a2) qe
def wTup (ws : WA) : WE := fun a q qe => ws a (fun rs a1 => fzs rs a1 fun ds a2 => ds.length ≤ sizeLine ∧ q (.dat (.tup ds)) a2) qe
theorem se_lst {es : List Expr} {ws : WA} (h : SA X W es la ws) : SE X W (.List es pos) (tLst la) (wLst ws) := by
  obtain ⟨p1, s1⟩ := h
  refine ⟨pe_lst p1, fun E F H σ a Q q qe R hw l lx => s1 E F H σ a _ _ qe R hw (fun vs rs F1 H1 a1 e1 R1 rps hn hq => ?_) lx⟩
  obtain ⟨F2, a2, ds, e2, R2, rp, hz, hq2⟩ := fzs_ok R1 rps hn hq
  refine ⟨by rw [rp.length]; exact hz, fun p hp => ?_⟩
  obtain ⟨f1, f2, f3⟩ := R2.fresh hp
  exact l (.ref p) (.new (.lst ds)) F2 _ a2 (e1.trans e2) (R2.lay _ hp) ⟨p, rfl, f1, f2, ⟨_, upd_same, .lst rp⟩, f3⟩ hq2
theorem Rel.layF {K : PySem.W.Frag} {E : En} {F H : Hp} {σ : L2.St} {a : PSt} (R : Rel K E F H σ a) {p : Addr} (o : HO) (h : H p = none) : Same F (upd F p o) ∧ Rel K E (upd F p o) (upd H p o) σ a := by
  obtain ⟨f1, f2, f3⟩ := R.fresh h
  exact (R.lay o h).freeze upd_same f1 f2 f3
theorem se_tup {es : List Expr} {ws : WA} {x1} (h : SA X W es la ws) : SE X W (.Tuple es x1 pos) (tTup la) (wTup ws) := by
  obtain ⟨p1, s1⟩ := h
  refine ⟨pe_tup p1, fun E F H σ a Q q qe R hw l lx => s1 E F H σ a _ _ qe R hw (fun vs rs F1 H1 a1 e1 R1 rps hn hq => ?_) lx⟩
  obtain ⟨F2, a2, ds, e2, R2, rp, hz, hq2⟩ := fzs_ok R1 rps hn hq
  refine ⟨by rw [rp.length]; exact hz, fun p hp => ?_⟩
  obtain ⟨e3, R3⟩ := R2.layF (.tup vs) hp
  exact l (.ref p) (.dat (.tup ds)) _ _ a2 ((e1.trans e2).trans e3) R3 (.tup upd_same (rp.mono e3)) hq2
end
end DS

namespace DS
open PySem PySem.Spec PyProof.Rows L2

section
variable {K : PySem.W.Frag} {E : En} {F F' H H' : Hp} {σ : L2.St} {a : PSt} {v : V} {r : Res}
/-- a new list, as a result -/
theorem new_lst {Q : VK} {k : Res → Prop} {vs : List V} {ds : List D} (R : Rel K E F H σ a) (rp : Reps K F vs ds) (l : ∀ v r F' H', Same F F' → Rel K E F' H' σ a → RepR K E F' H' σ a v r → k r → Q v H') (hk : k (.new (.lst ds))) :
    ∀ p, H p = none → Q (.ref p) (upd H p (.lst vs)) := fun p hp => by
  obtain ⟨f1, f2, f3⟩ := R.fresh hp
  exact l (.ref p) (.new (.lst ds)) F _ (Same.refl F) (R.lay _ hp) ⟨p, rfl, f1, f2, ⟨_, upd_same, .lst rp⟩, f3⟩ hk
theorem new_tup {Q : VK} {k : Res → Prop} {vs : List V} {ds : List D} (R : Rel K E F H σ a) (rp : Reps K F vs ds) (l : ∀ v r F' H', Same F F' → Rel K E F' H' σ a → RepR K E F' H' σ a v r → k r → Q v H') (hk : k (.dat (.tup ds))) :
    ∀ p, H p = none → Q (.ref p) (upd H p (.tup vs)) := fun p hp => by
  obtain ⟨e, R'⟩ := R.layF (.tup vs) hp
  exact l (.ref p) (.dat (.tup ds)) _ _ e R' (Rep.tup upd_same (rp.mono e)) hk
end

/-! ### int operators -/
def r2or (r r' : R2) : R2 := fun x y H Q => r x y H Q ∨ r' x y H Q
theorem OpS.int {K : PySem.W.Frag} {C : Int → Int → Prop} {g : Int → Int → Int} : OpS K (rI C fun i j => .int (g i j)) (fun x y k => match x, y with | .int i, .int j => C i j ∧ k (.dat (.int (g i j))) | _, _ => False) := by
  intro E F H σ a v1 v2 x y Q k R h1 h2 ho l
  split at ho
  · exact ⟨_, _, h1.int, h2.int, ho.1, l _ (.dat _) F H (Same.refl F) R (Rep.int _) ho.2⟩
  · exact ho.elim
theorem OpS.int0 {K : PySem.W.Frag} {g : Int → Int → Int} : OpS K (rI0 fun i j => .int (g i j)) (fun x y k => match x, y with | .int i, .int j => k (.dat (.int (g i j))) | _, _ => False) := by
  intro E F H σ a v1 v2 x y Q k R h1 h2 ho l
  split at ho
  · exact ⟨_, _, h1.int, h2.int, l _ (.dat _) F H (Same.refl F) R (Rep.int _) ho⟩
  · exact ho.elim
theorem OpS.bl0 {K : PySem.W.Frag} {g : Int → Int → Bool} : OpS K (rI0 fun i j => .bl (g i j)) (fun x y k => match x, y with | .int i, .int j => k (.dat (.bl (g i j))) | _, _ => False) := by
  intro E F H σ a v1 v2 x y Q k R h1 h2 ho l
  split at ho
  · exact ⟨_, _, h1.int, h2.int, l _ (.dat _) F H (Same.refl F) R (Rep.bl _) ho⟩
  · exact ho.elim
abbrev DOp := D → D → (Res → Prop) → Prop
def dSub : DOp := fun x y k => match x, y with | .int i, .int j => k (.dat (.int (i - j))) | _, _ => False
def dFdiv : DOp := fun x y k => match x, y with | .int i, .int j => CDiv i j ∧ k (.dat (.int (i / j))) | _, _ => False
def dMod : DOp := fun x y k => match x, y with | .int i, .int j => 0 < j ∧ k (.dat (.int (i % j))) | _, _ => False
def dPow : DOp := fun x y k => match x, y with | .int i, .int j => CPow i j ∧ k (.dat (.int (i ^ j.toNat))) | _, _ => False
def dLt : DOp := fun x y k => match x, y with | .int i, .int j => k (.dat (.bl (decide (i < j)))) | _, _ => False
def dLe : DOp := fun x y k => match x, y with | .int i, .int j => k (.dat (.bl (decide (i ≤ j)))) | _, _ => False
def dGt : DOp := fun x y k => match x, y with | .int i, .int j => k (.dat (.bl (decide (j < i)))) | _, _ => False
def dGe : DOp := fun x y k => match x, y with | .int i, .int j => k (.dat (.bl (decide (j ≤ i)))) | _, _ => False
section
variable {K : PySem.W.Frag} {X : Cx}
theorem dSub_ok : OpS K (rI0 fun i j => .int (i - j)) dSub := OpS.int0
theorem dFdiv_ok : OpS K (rI CDiv fun i j => .int (i / j)) dFdiv := OpS.int
theorem dMod_ok : OpS K (rI (fun _ j => 0 < j) fun i j => .int (i % j)) dMod := OpS.int
theorem dPow_ok : OpS K (rI CPow fun i j => .int (i ^ j.toNat)) dPow := OpS.int
theorem dLt_ok : OpS K (rI0 fun i j => .bl (decide (i < j))) dLt := OpS.bl0
theorem dLe_ok : OpS K (rI0 fun i j => .bl (decide (i ≤ j))) dLe := OpS.bl0
theorem dGt_ok : OpS K (rI0 fun i j => .bl (decide (j < i))) dGt := OpS.bl0
theorem dGe_ok : OpS K (rI0 fun i j => .bl (decide (j ≤ i))) dGe := OpS.bl0

/-! ### + and * -/
def rAddS : R2 := fun x y H Q => ∃ i j, x = .str i ∧ y = .str j ∧ i.length + j.length ≤ sizeLine ∧ Q (.str (i ++ j)) H
def rAddA : R2 := fun x y H Q => rI0 (fun i j => .int (i + j)) x y H Q ∨ rAddS x y H Q ∨ rCat x y H Q
theorem op_addA : OpR X (binaryOp .Add) rAddA := op_add.or (op_add_str.or op_cat)
def dAdd : DOp := fun x y k => match x, y with
  | .int i, .int j => k (.dat (.int (i + j)))
  | .str i, .str j => i.length + j.length ≤ sizeLine ∧ k (.dat (.str (i ++ j)))
  | .lst xs, .lst ys => xs.length + ys.length ≤ sizeLine ∧ k (.new (.lst (xs ++ ys)))
  | _, _ => False
theorem dAdd_ok : OpS K rAddA dAdd := by
  intro E F H σ a v1 v2 x y Q k R h1 h2 ho l
  unfold dAdd at ho
  split at ho
  · exact .inl ⟨_, _, h1.int, h2.int, l _ (.dat _) F H (Same.refl F) R (Rep.int _) ho⟩
  · exact .inr (.inl ⟨_, _, h1.str, h2.str, ho.1, l _ (.dat _) F H (Same.refl F) R (Rep.str _) ho.2⟩)
  · obtain ⟨p, vs, rfl, hp, rp⟩ := h1.lst R.ext
    obtain ⟨q, ws, rfl, hq, rq⟩ := h2.lst R.ext
    exact .inr (.inr ⟨p, q, vs, ws, rfl, rfl, hp, hq, by rw [rp.length, rq.length]; exact ho.1, new_lst R (rp.append rq) l ho.2⟩)
  · exact ho.elim
def rMulA : R2 := fun x y H Q => rI CMul (fun i j => .int (i * j)) x y H Q ∨ rRep x y H Q
theorem op_mulA : OpR X (binaryOp .Mult) rMulA := op_mul.or op_rep
def dMul : DOp := fun x y k => match x, y with
  | .int i, .int j => CMul i j ∧ k (.dat (.int (i * j)))
  | .lst xs, .int j => (-(2 ^ 63) ≤ j ∧ j < 2 ^ 63 ∧ xs.length * j.toNat ≤ sizeLine) ∧ k (.new (.lst (List.replicate j.toNat xs).flatten))
  | _, _ => False
theorem dMul_ok : OpS K rMulA dMul := by
  intro E F H σ a v1 v2 x y Q k R h1 h2 ho l
  unfold dMul at ho
  split at ho
  · exact .inl ⟨_, _, h1.int, h2.int, ho.1, l _ (.dat _) F H (Same.refl F) R (Rep.int _) ho.2⟩
  · obtain ⟨p, vs, rfl, hp, rp⟩ := h1.lst R.ext
    exact .inr ⟨p, _, vs, rfl, h2.int, hp, ho.1.1, ho.1.2.1, by rw [rp.length]; exact ho.1.2.2, new_lst R (rp.rep _) l ho.2⟩
  · exact ho.elim

/-! ### == -/
mutual
def pyd : D → Option PyData
  | .non => some .none
  | .bl b => some (.bool b)
  | .int i => some (.int i)
  | .str x => some (.str x)
  | .lst xs => (pyds xs).map .list
  | .rol xs => (pyds xs).map .list
  | .tup xs => (pyds xs).map .tuple
  | .rot xs => (pyds xs).map .tuple
  | .dK _ => none
  | .dT _ => none
  | .lK _ => none
  | .lT _ => none
  | .ins _ _ => none
  | .exc _ _ _ _ => none
  | .ty _ => none
  | .adr _ => none
def pyds : List D → Option (List PyData)
  | [] => some []
  | d :: ds => match pyd d, pyds ds with
    | some a, some b => some (a :: b)
    | _, _ => none
end
theorem pyds_cons {d : D} {ds : List D} {ps : List PyData} (h : pyds (d :: ds) = some ps) : ∃ p qs, ps = p :: qs ∧ pyd d = some p ∧ pyds ds = some qs := by
  unfold pyds at h
  split at h
  · cases h; exact ⟨_, _, rfl, by assumption, by assumption⟩
  · cases h
section
variable {F H : Hp}
mutual
theorem dp_of (e : Same F H) : ∀ (d : D) (v : V) (p : PyData), Rep K F v d → pyd d = some p → Dp K H v p
  | .non, _, _, h, q => by cases h; cases q; exact .non
  | .bl _, _, _, h, q => by cases h; cases q; exact .bl _
  | .int _, _, _, h, q => by cases h; cases q; exact .int _
  | .str _, _, _, h, q => by cases h; cases q; exact .str _
  | .lst xs, _, _, h, q => by
    cases h with
    | lst hf r =>
      rw [pyd] at q
      obtain ⟨ps, e1, rfl⟩ := Option.map_eq_some_iff.mp q
      exact .lst (SqL.of (e _ _ hf)) (dps_of e xs _ ps r e1)
  | .rol xs, _, _, h, q => by
    cases h with
    | rol hf r =>
      rw [pyd] at q
      obtain ⟨ps, e1, rfl⟩ := Option.map_eq_some_iff.mp q
      exact .lst (e.seq hf) (dps_of e xs _ ps r e1)
  | .tup xs, _, _, h, q => by
    cases h with
    | tup hf r =>
      rw [pyd] at q
      obtain ⟨ps, e1, rfl⟩ := Option.map_eq_some_iff.mp q
      exact .tup (SqT.of (e _ _ hf)) (dps_of e xs _ ps r e1)
  | .rot xs, _, _, h, q => by
    cases h with
    | rot hf r =>
      rw [pyd] at q
      obtain ⟨ps, e1, rfl⟩ := Option.map_eq_some_iff.mp q
      exact .tup (same_seqT e hf) (dps_of e xs _ ps r e1)
  | .dK _, _, _, _, q => by cases q
  | .dT _, _, _, _, q => by cases q
  | .lK _, _, _, _, q => by cases q
  | .lT _, _, _, _, q => by cases q
  | .ins _ _, _, _, _, q => by cases q
  | .exc _ _ _ _, _, _, _, q => by cases q
  | .ty _, _, _, _, q => by cases q
  | .adr _, _, _, _, q => by cases q
theorem dps_of (e : Same F H) : ∀ (ds : List D) (vs : List V) (ps : List PyData), Reps K F vs ds → pyds ds = some ps → DpAll K H vs ps
  | [], _, _, h, q => by cases h; cases q; exact .nil
  | d :: ds, _, ps, h, q => by
    cases h with
    | cons h1 h2 =>
      obtain ⟨p, qs, rfl, e1, e2⟩ := pyds_cons q
      exact .cons (dp_of e d _ p h1 e1) (dps_of e ds _ qs h2 e2)
end
theorem dp_rd (e : Same F H) {d : D} {v : V} {p : PyData} (h : RdD K F H v d) (q : pyd d = some p) : Dp K H v p := by
  rcases h with h | ⟨b, rfl, o, ho, t⟩
  · exact dp_of e d v p h q
  · cases t with
    | lst r =>
      rw [pyd] at q
      obtain ⟨ps, e1, rfl⟩ := Option.map_eq_some_iff.mp q
      exact .lst (SqL.of ho) (dps_of e _ _ ps r e1)
    | _ => cases q
end
/-- a scalar -/
def sca : D → Option V
  | .non => some .non
  | .bl b => some (.bl b)
  | .int i => some (.int i)
  | .str x => some (.str x)
  | _ => none
theorem RdD.sca {F H : Hp} {d : D} {v u : V} (h : RdD K F H v d) (s : sca d = some u) : v = u := by
  cases d with
  | non => cases s; exact h.non
  | bl b => cases s; exact h.bl
  | int b => cases s; exact h.int
  | str b => cases s; exact h.str
  | _ => cases s
@[irreducible] def eqH (x y : D) (k : Bool → Prop) : Prop := (∃ u v, sca x = some u ∧ sca y = some v ∧ scal u v = true ∧ k (decide (u = v))) ∨
      ∃ p q, pyd x = some p ∧ pyd y = some q ∧ SeqAt.shaped p = true ∧ SeqAt.shaped q = true ∧ k (PyData.eqv p q)
def dEqB (x y : D) (k : Bool → Prop) : Prop := match x, y with
  | .int i, .int j => k (decide (i = j))
  | .str i, .str j => k (decide (i = j))
  | .bl i, .bl j => k (decide (i = j))
  | x, y => eqH x y k
def rEqA (K : PySem.W.Frag) : R2 := fun x y H Q => rEq x y H Q ∨ rEqD K x y H Q
def rNeA (K : PySem.W.Frag) : R2 := fun x y H Q => rNe x y H Q ∨ rNeD K x y H Q
theorem op_eqA (hu : X.A.units + 64 < cLine) : OpR X (compareOp .Eq) (rEqA X.K) := op_eq.or (op_eqD hu)
theorem op_neA (hu : X.A.units + 64 < cLine) : OpR X (compareOp .NotEq) (rNeA X.K) := op_ne.or (op_neD hu)
def dEq : DOp := fun x y k => dEqB x y fun b => k (.dat (.bl b))
def dNe : DOp := fun x y k => dEqB x y fun b => k (.dat (.bl (!b)))
theorem decV_int {i j : Int} : decide (V.int i = V.int j) = decide (i = j) := by simp
theorem decV_str {i j : Str} : decide (V.str i = V.str j) = decide (i = j) := by simp
theorem decV_bl {i j : Bool} : decide (V.bl i = V.bl j) = decide (i = j) := by simp
theorem dEqB_ok {E : En} {F H : Hp} {σ : L2.St} {a : PSt} {v1 v2 : V} {x y : D} {k : Bool → Prop} (R : Rel K E F H σ a) (h1 : RdD K F H v1 x) (h2 : RdD K F H v2 y) (ho : dEqB x y k) :
    (scal v1 v2 = true ∧ k (decide (v1 = v2))) ∨ ∃ d e, Dp K H v1 d ∧ Dp K H v2 e ∧ SeqAt.shaped d = true ∧ SeqAt.shaped e = true ∧ k (PyData.eqv d e) := by
  unfold dEqB at ho
  split at ho
  · obtain rfl := h1.int; obtain rfl := h2.int
    exact .inl ⟨rfl, by rw [decV_int]; exact ho⟩
  · obtain rfl := h1.str; obtain rfl := h2.str
    exact .inl ⟨rfl, by rw [decV_str]; exact ho⟩
  · obtain rfl := h1.bl; obtain rfl := h2.bl
    exact .inl ⟨rfl, by rw [decV_bl]; exact ho⟩
  · unfold eqH at ho
    rcases ho with ⟨u, v, e1, e2, s, hk⟩ | ⟨p, q, e1, e2, s1, s2, hk⟩
    · obtain rfl := h1.sca e1
      obtain rfl := h2.sca e2
      exact .inl ⟨s, hk⟩
    · exact .inr ⟨p, q, dp_rd R.ext h1 e1, dp_rd R.ext h2 e2, s1, s2, hk⟩
theorem dEq_ok : OpS K (rEqA K) dEq := by
  intro E F H σ a v1 v2 x y Q k R h1 h2 ho l
  have hl : ∀ b, k (.dat (.bl b)) → Q (.bl b) H := fun b hb => l _ (.dat _) F H (Same.refl F) R (Rep.bl _) hb
  rcases dEqB_ok R h1 h2 ho with ⟨s, hk⟩ | ⟨d, e, p1, p2, s1, s2, hk⟩
  · exact .inl ⟨s, hl _ hk⟩
  · exact .inr ⟨d, e, p1, p2, s1, s2, hl _ hk⟩
theorem dNe_ok : OpS K (rNeA K) dNe := by
  intro E F H σ a v1 v2 x y Q k R h1 h2 ho l
  have hl : ∀ b, k (.dat (.bl b)) → Q (.bl b) H := fun b hb => l _ (.dat _) F H (Same.refl F) R (Rep.bl _) hb
  rcases dEqB_ok R h1 h2 ho with ⟨s, hk⟩ | ⟨d, e, p1, p2, s1, s2, hk⟩
  · exact .inl ⟨s, hl _ hk⟩
  · exact .inr ⟨d, e, p1, p2, s1, s2, hl _ hk⟩
/-! ### is None -/
def isNon : D → Bool
  | .non => true
  | _ => false
theorem isNon_ok {F H : Hp} {v : V} {d : D} (h : RdD K F H v d) : decide (v = .non) = isNon d := by
  rcases h with h | ⟨p, rfl, o, ho, t⟩
  · cases h <;> rfl
  · cases t <;> rfl
def dIs : DOp := fun x y k => match y with | .non => k (.dat (.bl (isNon x))) | _ => False
def dIsNot : DOp := fun x y k => match y with | .non => k (.dat (.bl (!isNon x))) | _ => False
theorem dIs_ok : OpS K (fun x y H Q => y = .non ∧ Q (.bl (decide (x = .non))) H) dIs := by
  intro E F H σ a v1 v2 x y Q k R h1 h2 ho l
  unfold dIs at ho
  split at ho
  · refine ⟨h2.non, ?_⟩
    rw [isNon_ok h1]
    exact l _ (.dat _) F H (Same.refl F) R (Rep.bl _) ho
  · exact ho.elim
theorem dIsNot_ok : OpS K (fun x y H Q => y = .non ∧ Q (.bl (!decide (x = .non))) H) dIsNot := by
  intro E F H σ a v1 v2 x y Q k R h1 h2 ho l
  unfold dIsNot at ho
  split at ho
  · refine ⟨h2.non, ?_⟩
    rw [isNon_ok h1]
    exact l _ (.dat _) F H (Same.refl F) R (Rep.bl _) ho
  · exact ho.elim
/-! ### in a list, a tuple of flat items; a sign in a text -/
def flatD : D → Bool
  | .non => true
  | .bl _ => true
  | .int _ => true
  | .str _ => true
  | _ => false
def scEq : D → D → Bool
  | .non, .non => true
  | .bl a, .bl b => a == b
  | .bl a, .int b => (if a then 1 else 0) == b
  | .int a, .bl b => a == (if b then 1 else 0)
  | .int a, .int b => a == b
  | .str a, .str b => a == b
  | _, _ => false
theorem flat_rep {F H : Hp} {v : V} {d : D} (h : RdD K F H v d) (f : flatD d = true) : flatV v = true := by
  cases d with
  | non => rw [h.non]; rfl
  | bl _ => rw [h.bl]; rfl
  | int _ => rw [h.int]; rfl
  | str _ => rw [h.str]; rfl
  | _ => cases f
theorem scEq_rep {F F' H H' : Hp} {v u : V} {d e : D} (h : RdD K F H v d) (h' : RdD K F' H' u e) (f : flatD d = true) (f' : flatD e = true) : eqV v u = scEq d e := by
  cases d <;> first
    | exact absurd (show false = true from f) Bool.false_ne_true
    | (cases e <;> first
        | exact absurd (show false = true from f') Bool.false_ne_true
        | (first | obtain rfl := h.int | obtain rfl := h.str | obtain rfl := h.bl | obtain rfl := h.non
           first | obtain rfl := h'.int | obtain rfl := h'.str | obtain rfl := h'.bl | obtain rfl := h'.non
           rfl))
theorem any_rep {F F' H' : Hp} {u : V} {e : D} (h' : RdD K F' H' u e) (f' : flatD e = true) : ∀ {vs : List V} {ds : List D}, Reps K F vs ds → ds.all flatD = true → vs.all flatV = true ∧ inV u vs = ds.any fun d => scEq d e
  | _, _, .nil, _ => ⟨rfl, rfl⟩
  | _, _, .cons r t, f => by
    rw [List.all_cons, Bool.and_eq_true] at f
    obtain ⟨h1, h2⟩ := any_rep h' f' t f.2
    refine ⟨by rw [List.all_cons, h1, flat_rep (.inl r : RdD K F F _ _) f.1]; rfl, ?_⟩
    unfold inV at *
    rw [List.any_cons, List.any_cons, h2, scEq_rep (.inl r : RdD K F F _ _) h' f.1 f']
def dInB (x y : D) (k : Bool → Prop) : Prop := match y with
  | .str z => match x with | .str i => ∃ c, i = ⟨#[c]⟩ ∧ k (decide (c ∈ z.cps.toList)) | _ => False
  | y => ∃ ys, seqOf y = some ys ∧ flatD x = true ∧ ys.all flatD = true ∧ k (ys.any fun d => scEq d x)
def rSign (neg : Bool) : R2 := fun x y H Q => ∃ (c : Nat) (z : Str), x = .str ⟨#[c]⟩ ∧ y = .str z ∧ Q (.bl (if neg then !decide (c ∈ z.cps.toList) else decide (c ∈ z.cps.toList))) H
def rInA (K : PySem.W.Frag) (neg : Bool) : R2 := fun x y H Q => rSign neg x y H Q ∨ rIn K neg x y H Q
theorem op_inA : OpR X (compareOp .In) (rInA X.K false) := OpR.or op_in_sign op_in_seq
theorem op_notInA : OpR X (compareOp .NotIn) (rInA X.K true) := OpR.or op_notIn_sign op_notIn_seq
def dIn : DOp := fun x y k => dInB x y fun b => k (.dat (.bl b))
def dNotIn : DOp := fun x y k => dInB x y fun b => k (.dat (.bl (!b)))
theorem dInB_ok {neg : Bool} {E : En} {F H : Hp} {σ : L2.St} {a : PSt} {v1 v2 : V} {x y : D} {k : Bool → Prop} {Q : VK} (R : Rel K E F H σ a) (h1 : RdD K F H v1 x) (h2 : RdD K F H v2 y) (ho : dInB x y k)
    (l : ∀ b, k b → Q (.bl (if neg then !b else b)) H) : rInA K neg v1 v2 H Q := by
  unfold dInB at ho
  split at ho
  · split at ho
    · obtain ⟨c, rfl, hk⟩ := ho
      exact .inl ⟨c, _, h1.str, h2.str, l _ hk⟩
    · exact ho.elim
  · obtain ⟨ys, s, f, fs, hk⟩ := ho
    obtain ⟨p, vs, rfl, hs, rp⟩ := h2.seq R.ext s
    obtain ⟨g1, g2⟩ := any_rep h1 f rp fs
    refine .inr ⟨p, vs, rfl, hs, flat_rep h1 f, g1, ?_⟩
    rw [g2]
    exact l _ hk
theorem dIn_ok : OpS K (rInA K false) dIn := by
  intro E F H σ a v1 v2 x y Q k R h1 h2 ho l
  exact dInB_ok R h1 h2 ho fun b hb => l _ (.dat _) F H (Same.refl F) R (Rep.bl _) hb
theorem dNotIn_ok : OpS K (rInA K true) dNotIn := by
  intro E F H σ a v1 v2 x y Q k R h1 h2 ho l
  exact dInB_ok R h1 h2 ho fun b hb => l _ (.dat _) F H (Same.refl F) R (Rep.bl _) hb
end

/-! ### subscripts, slices -/
section
variable {X : Cx} {W : L2.St → XK} {ta tb tc : TE} {ua ub : TT} {la : TA} {e a b c : Expr} {pos : Pos} {w w1 w2 w3 : WE}
def dIx : DOp := fun x y k => match x, y with
  | .str z, .int i => z.length ≤ sizeLine ∧ onO (atI z.cps.toList i) fun c => k (.dat (.str ⟨#[c]⟩))
  | x, .int i => onO (seqOf x) fun xs => onO (atI xs i) fun d => k (.dat d)
  | _, _ => False
theorem Reps.atI {K : PySem.W.Frag} {F : Hp} {vs : List V} {ds : List D} (r : Reps K F vs ds) {i : Int} {d : D} (h : L2.atI ds i = some d) : ∃ v, L2.atI vs i = some v ∧ Rep K F v d := by
  unfold L2.atI at *
  rw [r.length]
  cases e : ixN ds.length i with
  | none => rw [e] at h; cases h
  | some j =>
    rw [e] at h
    exact r.get' h
theorem dIx_ok {K : PySem.W.Frag} : OpS K (rIx K) dIx := by
  intro E F H σ a v1 v2 x y Q k R h1 h2 ho l
  unfold dIx at ho
  split at ho
  · obtain ⟨hz, ho⟩ := ho
    obtain ⟨c, h, hk⟩ := onO_iff.mp ho
    exact .inr (.inr ⟨_, _, c, h1.str, h2.int, hz, h, l _ (.dat _) F H (Same.refl F) R (Rep.str _) hk⟩)
  · obtain ⟨xs, s, ho⟩ := onO_iff.mp ho
    obtain ⟨d, h, hk⟩ := onO_iff.mp ho
    obtain ⟨p, vs, rfl, hs, rp⟩ := h1.seq R.ext s
    obtain ⟨v, hv, rv⟩ := rp.atI h
    have q := l v (.dat d) F H (Same.refl F) R rv hk
    rcases hs with hs | hs
    · exact .inl ⟨p, vs, _, v, rfl, h2.int, hs, hv, q⟩
    · exact .inr (.inl ⟨p, vs, _, v, rfl, h2.int, hs, hv, q⟩)
  · exact ho.elim
theorem se_ix (h1 : SE X W a ta w1) (h2 : SE X W b tb w2) (hs : PlainIx b) : SE X W (.Subscript a b pos) (tOp (rIx X.K) ta tb) (wBin dIx w1 w2) := by
  obtain ⟨pa, sa⟩ := id h1
  obtain ⟨pb, sb⟩ := id h2
  exact ⟨pe_ix ix_seq pa pb hs, bin_ok dIx_ok sa sb⟩
/-- a part of a slice -/
abbrev WO := PSt → (Option Int → PSt → Prop) → (Exc → PSt → Prop) → Prop
def Lo (K : PySem.W.Frag) (E : En) (F : Hp) (σ : L2.St) (q : Option Int → PSt → Prop) (Q : Option Int → Hp → Prop) : Prop :=
  ∀ b F' H' a', Same F F' → Rel K E F' H' σ a' → q b a' → Q b H'
def SO (X : Cx) (W : L2.St → XK) (e : Option Expr) (t : TO) (w : WO) : Prop := PO X e t ∧ ∀ E F H σ a Q q qe, Rel X.K E F H σ a → w a q qe → Lo X.K E F σ q Q → Lx X.K E F σ qe (W σ) → t σ H Q
def woN : WO := fun a q _ => q none a
def woS (w : WE) : WO := fun a q qe => w a (fun r a1 => onI (con a1 r) fun i => q (some i) a1) qe
variable {oa ob : TO}
theorem so_none : SO X W none tNoPart woN := ⟨po_none, fun E F H σ a Q q qe R hw l lx => l none F H a (Same.refl F) R hw⟩
theorem so_some (h : SE X W e ta w) : SO X W (some e) (tPart ta) (woS w) := by
  obtain ⟨p, s⟩ := h
  refine ⟨po_some p, fun E F H σ a Q q qe R hw l lx => s E F H σ a _ _ qe R hw (fun v1 r1 F1 H1 a1 e1 R1 rp hq => ?_) lx⟩
  obtain ⟨i, c, hq⟩ := onI_iff.mp hq
  exact ⟨i, (rd_of R1 rp c).int, l (some i) F1 H1 a1 e1 R1 hq⟩
def cutDs (xs : List D) (lo hi : Option Int) : List D := (xs.drop (HT.sIx xs.length 0 lo)).take (HT.sIx xs.length xs.length hi - HT.sIx xs.length 0 lo)
theorem Reps.cut {K : PySem.W.Frag} {F : Hp} {vs : List V} {ds : List D} (r : Reps K F vs ds) (lo hi : Option Int) : Reps K F (cutV vs lo hi) (cutDs ds lo hi) := by
  unfold cutV cutDs
  rw [r.length]
  exact (r.drop _).take _
def dSl (x : D) (lo hi : Option Int) (k : Res → Prop) : Prop := match x with
  | .lst xs => k (.new (.lst (cutDs xs lo hi)))
  | .rol xs => k (.new (.lst (cutDs xs lo hi)))
  | .tup xs => ¬ (HT.sIx xs.length 0 lo = 0 ∧ HT.sIx xs.length xs.length hi = xs.length) ∧ k (.dat (.tup (cutDs xs lo hi)))
  | .str z => z.length ≤ sizeLine ∧ k (.dat (.str (cutS z lo hi)))
  | _ => False
def wSl (w : WE) (wl wh : WO) : WE := fun a q qe => w a (fun r a1 => wl a1 (fun lo a2 => wh a2 (fun hi a3 => onO (con a3 (hold r)) fun x => dSl x lo hi fun r => q r a3) qe) qe) qe
theorem se_slice {lo hi : Option Expr} {p2 : Pos} {wl wh : WO} (h : SE X W e ta w) (h1 : SO X W lo oa wl) (h2 : SO X W hi ob wh) : SE X W (.Subscript e (.Slice lo hi none p2) pos) (tSl (fun x lo hi H Q => rSlL X.K x lo hi H Q ∨ rSlT X.K x lo hi H Q ∨ rSlS x lo hi H Q) ta oa ob) (wSl w wl wh) := by
  obtain ⟨p, s⟩ := h
  obtain ⟨p1, s1⟩ := h1
  obtain ⟨p2, s2⟩ := h2
  refine ⟨pe_slice (sl_list.or (sl_tup.or sl_str)) p p1 p2, fun E F H σ a Q q qe R hw l lx => ?_⟩
  refine s E F H σ a _ _ qe R hw (fun v1 r1 F1 H1 a1 e1 R1 rp hq => ?_) lx
  obtain ⟨F1', e1', R1', rp'⟩ := hold_ok R1 rp
  refine s1 E F1' H1 σ a1 _ _ qe R1' hq (fun lo F2 H2 a2 e2 R2 hq2 => ?_) (lx.to (e1.trans e1'))
  refine s2 E F2 H2 σ a2 _ _ qe R2 hq2 (fun hi F3 H3 a3 e3 R3 hq3 => ?_) (lx.to ((e1.trans e1').trans e2))
  obtain ⟨x, c, ho⟩ := onO_iff.mp hq3
  have rd := rd_of R3 (held_on (H' := H3) (a' := a3) (e2.trans e3) rp') c
  have e := ((e1.trans e1').trans e2).trans e3
  have l' : ∀ v r F' H', Same F3 F' → Rel X.K E F' H' σ a3 → RepR X.K E F' H' σ a3 v r → q r a3 → Q v H' := fun v r F' H' e' R' rp hq => l v r F' H' a3 (e.trans e') R' rp hq
  unfold dSl at ho
  split at ho
  · obtain ⟨p, vs, rfl, hp, r⟩ := rd.lst R3.ext
    exact .inl ⟨p, vs, rfl, .of hp, new_lst R3 (r.cut lo hi) l' ho⟩
  · obtain ⟨p, vs, rfl, hp, r⟩ := rd.rol R3.ext
    exact .inl ⟨p, vs, rfl, hp, new_lst R3 (r.cut lo hi) l' ho⟩
  · obtain ⟨p, vs, rfl, hp, r⟩ := rd.tup R3.ext
    exact .inr (.inl ⟨p, vs, rfl, .of hp, by rw [r.length]; exact ho.1, new_tup R3 (r.cut lo hi) l' ho.2⟩)
  · exact .inr (.inr ⟨_, rd.str, ho.1, l' _ (.dat _) F3 H3 (Same.refl F3) R3 (Rep.str _) ho.2⟩)
  · exact ho.elim
end
end DS

namespace DS
open PySem PySem.Spec PyProof.Rows L2

/-! ### calls of built-ins -/
abbrev DCall := List D → (Res → Prop) → Prop
def conts (a : PSt) : List Res → Option (List D)
  | [] => some []
  | r :: rs => match con a r, conts a rs with
    | some d, some ds => some (d :: ds)
    | _, _ => none
def CallS (K : PySem.W.Frag) (r : List V → Hp → VK → Prop) (op : DCall) : Prop :=
  ∀ E F H σ a vs ds Q k, Rel K E F H σ a → Paired (RdD K F H) vs ds → op ds k → (∀ v r F' H', Same F F' → Rel K E F' H' σ a → RepR K E F' H' σ a v r → k r → Q v H') → r vs H Q
theorem conts_rd {K : PySem.W.Frag} {E : En} {F H : Hp} {σ : L2.St} {a : PSt} (R : Rel K E F H σ a) : ∀ {vs : List V} {rs : List Res} {ds : List D}, RepRs K E F H σ a vs rs → conts a rs = some ds → Paired (RdD K F H) vs ds
  | _, _, _, .nil, c => by cases c; exact .nil
  | _, _, ds, .cons h t, c => by
    unfold conts at c
    split at c
    · cases c
      exact .cons (rd_of R h (by assumption)) (conts_rd R t (by assumption))
    · cases c
section
variable {X : Cx} {W : L2.St → XK} {ta tb tc : TE} {ua ub : TT} {la : TA} {e a b c o : Expr} {es : List Expr} {pos : Pos} {w w1 w2 w3 : WE} {ws : WA}
def wCB (op : DCall) (ws : WA) : WE := fun a q qe => ws a (fun rs a1 => onO (conts a1 rs) fun ds => op ds fun r => q r a1) qe
theorem cb_ok {r : List V → Hp → VK → Prop} {op : DCall} {t : TA} (hs : CallS X.K r op) (s : ∀ E F H σ a Q q qe, Rel X.K E F H σ a → ws a q qe → La X.K E F σ q Q → Lx X.K E F σ qe (W σ) → t σ H Q) :
    ∀ E F H σ a Q q qe, Rel X.K E F H σ a → wCB op ws a q qe → Ln X.K E F σ q Q → Lx X.K E F σ qe (W σ) → tCB r t σ H Q := by
  intro E F H σ a Q q qe R hw l lx
  refine s E F H σ a _ _ qe R hw (fun vs rs F1 H1 a1 e1 R1 rps hn hq => ?_) lx
  obtain ⟨ds, c, ho⟩ := onO_iff.mp hq
  exact hs E F1 H1 σ a1 vs ds Q _ R1 (conts_rd R1 rps c) ho fun v r F' H' e' R' rp k => l v r F' H' a1 (e1.trans e') R' rp k
theorem se_callB {id : String} {x : Str} {p : Pos} {r : List V → Hp → VK → Prop} {op : DCall} (hc : CallR X (.builtin id) r) (hs : CallS X.K r op) (hg : Gl X x) (hm : X.mg x = none) (hv : bootBuiltins x = some (.builtin id)) (ha : SA X W (e :: es) la ws) (hn : x ≠ "__name__" := by decide) (hdb : (x == ("__debug__" : Str)) = false := by decide)
    (he : starEach (e :: es) X.env = (false, eval e X.env) :: starEach es X.env := by rfl) (hpl : (backTo pos (starEach es X.env)).any (·.1) = false := by rfl) : SE X W (.Call (.Name x p) (e :: es) [] pos) (tCB r la) (wCB op ws) := by
  obtain ⟨pa, s⟩ := ha
  exact ⟨pe_callB hc hg hm hv pa hn hdb he hpl, cb_ok hs s⟩
theorem se_callTy {T : String} {x : Str} {p : Pos} {r : List V → Hp → VK → Prop} {op : DCall} (hc : CallR X (.type T) r) (hs : CallS X.K r op) (hg : Gl X x) (hm : X.mg x = none) (hv : bootBuiltins x = some (.type T)) (ha : SA X W (e :: es) la ws) (hn : x ≠ "__name__" := by decide) (hdb : (x == ("__debug__" : Str)) = false := by decide)
    (he : starEach (e :: es) X.env = (false, eval e X.env) :: starEach es X.env := by rfl) (hpl : (backTo pos (starEach es X.env)).any (·.1) = false := by rfl) : SE X W (.Call (.Name x p) (e :: es) [] pos) (tCB r la) (wCB op ws) := by
  obtain ⟨pa, s⟩ := ha
  exact ⟨pe_callTy hc hg hm hv pa hn hdb he hpl, cb_ok hs s⟩
end

section
variable {K : PySem.W.Frag} {X : Cx}
/-! len -/
def rLenA (K : PySem.W.Frag) : List V → Hp → VK → Prop := fun xs H Q => (∃ p ys, xs = [.ref p] ∧ (SqL K H p ys ∨ SqT K H p ys) ∧ Q (.int ys.length) H) ∨ (∃ z, xs = [.str z] ∧ z.length ≤ sizeLine ∧ Q (.int z.length) H) ∨
  ∃ a kvs, xs = [V.ref a] ∧ H a = some (.dK kvs) ∧ Q (.int kvs.length) H
theorem call_lenA : CallR X (.builtin "len") (rLenA X.K) := call_len_seq.or (call_len_str.or call_lenD)
theorem RepA.length {κ : Type} {F : Hp} : ∀ {vs : List (κ × V)} {ds : List (κ × D)}, RepA K F vs ds → vs.length = ds.length
  | [], [], _ => rfl
  | [], _ :: _, h => by cases h
  | _ :: _, [], h => by cases h
  | (k, v) :: vs, (j, d) :: ds, h => by
    cases h with
    | cons _ t => exact congrArg (· + 1) t.length
def dLen : DCall := fun ds k => match ds with
  | [.str z] => z.length ≤ sizeLine ∧ k (.dat (.int z.length))
  | [.dK kvs] => k (.dat (.int kvs.length))
  | [d] => onO (seqOf d) fun xs => k (.dat (.int xs.length))
  | _ => False
theorem dLen_ok : CallS K (rLenA K) dLen := by
  intro E F H σ a vs ds Q k R h ho l
  have hl : ∀ n : Nat, k (.dat (.int n)) → Q (.int n) H := fun n hn => l _ (.dat _) F H (Same.refl F) R (Rep.int _) hn
  unfold dLen at ho
  split at ho
  · cases h with
    | cons h t =>
      cases t
      obtain rfl := h.str
      exact .inr (.inl ⟨_, rfl, ho.1, hl _ ho.2⟩)
  · cases h with
    | cons h t =>
      cases t
      obtain ⟨p, ws, rfl, hp, r⟩ := h.dK R.ext
      exact .inr (.inr ⟨p, ws, rfl, hp, by rw [r.length]; exact hl _ ho⟩)
  · obtain ⟨xs, s, ho⟩ := onO_iff.mp ho
    cases h with
    | cons h t =>
      cases t
      obtain ⟨p, ws, rfl, hp, r⟩ := h.seq R.ext s
      exact .inl ⟨p, ws, rfl, hp, by rw [r.length]; exact hl _ ho⟩
  · exact ho.elim
/-! int, min, max, abs, ord, chr, list, tuple, sum -/
def dInt : DCall := fun ds k => match ds with
  | [.int i] => k (.dat (.int i))
  | [.bl b] => k (.dat (.int (if b then 1 else 0)))
  | _ => False
theorem dInt_ok : CallS K (fun xs H Q => (∃ i, xs = [.int i] ∧ Q (.int i) H) ∨ ∃ k, xs = [.bl k] ∧ Q (.int (if k then 1 else 0)) H) dInt := by
  intro E F H σ a vs ds Q k R h ho l
  unfold dInt at ho
  split at ho
  · cases h with
    | cons h t => cases t; obtain rfl := h.int; exact .inl ⟨_, rfl, l _ (.dat _) F H (Same.refl F) R (Rep.int _) ho⟩
  · cases h with
    | cons h t => cases t; obtain rfl := h.bl; exact .inr ⟨_, rfl, l _ (.dat _) F H (Same.refl F) R (Rep.int _) ho⟩
  · exact ho.elim
def dMin2 : DCall := fun ds k => match ds with
  | [.int i, .int j] => k (.dat (.int (if j < i then j else i)))
  | _ => False
def dMax2 : DCall := fun ds k => match ds with
  | [.int i, .int j] => k (.dat (.int (if j > i then j else i)))
  | _ => False
theorem dMin2_ok : CallS K (fun xs H Q => ∃ i j, xs = [.int i, .int j] ∧ Q (.int (if j < i then j else i)) H) dMin2 := by
  intro E F H σ a vs ds Q k R h ho l
  unfold dMin2 at ho
  split at ho
  · cases h with
    | cons h t => cases t with
      | cons h' t => cases t; obtain rfl := h.int; obtain rfl := h'.int; exact ⟨_, _, rfl, l _ (.dat _) F H (Same.refl F) R (Rep.int _) ho⟩
  · exact ho.elim
theorem dMax2_ok : CallS K (fun xs H Q => ∃ i j, xs = [.int i, .int j] ∧ Q (.int (if j > i then j else i)) H) dMax2 := by
  intro E F H σ a vs ds Q k R h ho l
  unfold dMax2 at ho
  split at ho
  · cases h with
    | cons h t => cases t with
      | cons h' t => cases t; obtain rfl := h.int; obtain rfl := h'.int; exact ⟨_, _, rfl, l _ (.dat _) F H (Same.refl F) R (Rep.int _) ho⟩
  · exact ho.elim
def dAbs : DCall := fun ds k => match ds with
  | [.int i] => k (.dat (.int (if i < 0 then -i else i)))
  | _ => False
theorem dAbs_ok : CallS K (fun xs H Q => ∃ i, xs = [.int i] ∧ Q (.int (if i < 0 then -i else i)) H) dAbs := by
  intro E F H σ a vs ds Q k R h ho l
  unfold dAbs at ho
  split at ho
  · cases h with
    | cons h t => cases t; obtain rfl := h.int; exact ⟨_, rfl, l _ (.dat _) F H (Same.refl F) R (Rep.int _) ho⟩
  · exact ho.elim
def dOrd : DCall := fun ds k => match ds with
  | [.str x] => x.length = 1 ∧ k (.dat (.int (x.cps.getD 0 0 : Nat)))
  | _ => False
theorem dOrd_ok : CallS K (fun xs H Q => ∃ x, xs = [.str x] ∧ x.length = 1 ∧ Q (.int (x.cps.getD 0 0 : Nat)) H) dOrd := by
  intro E F H σ a vs ds Q k R h ho l
  unfold dOrd at ho
  split at ho
  · cases h with
    | cons h t => cases t; obtain rfl := h.str; exact ⟨_, rfl, ho.1, l _ (.dat _) F H (Same.refl F) R (Rep.int _) ho.2⟩
  · exact ho.elim
def dChr : DCall := fun ds k => match ds with
  | [.int i] => (0 ≤ i ∧ i ≤ 1114111) ∧ k (.dat (.str ⟨#[i.toNat]⟩))
  | _ => False
theorem dChr_ok : CallS K (fun xs H Q => ∃ i, xs = [.int i] ∧ 0 ≤ i ∧ i ≤ 1114111 ∧ Q (.str ⟨#[i.toNat]⟩) H) dChr := by
  intro E F H σ a vs ds Q k R h ho l
  unfold dChr at ho
  split at ho
  · cases h with
    | cons h t => cases t; obtain rfl := h.int; exact ⟨_, rfl, ho.1.1, ho.1.2, l _ (.dat _) F H (Same.refl F) R (Rep.str _) ho.2⟩
  · exact ho.elim
def dStrI : DCall := fun ds k => match ds with
  | [.int i] => i.natAbs.log2 < 1920 ∧ k (.dat (.str (toString i)))
  | _ => False
theorem dStrI_ok : CallS K (fun xs H Q => ∃ i, xs = [.int i] ∧ i.natAbs.log2 < 1920 ∧ Q (.str (toString i)) H) dStrI := by
  intro E F H σ a vs ds Q k R h ho l
  unfold dStrI at ho
  split at ho
  · cases h with
    | cons h t => cases t; obtain rfl := h.int; exact ⟨_, rfl, ho.1, l _ (.dat _) F H (Same.refl F) R (Rep.str _) ho.2⟩
  · exact ho.elim
def dList : DCall := fun ds k => match ds with
  | [d] => onO (seqOf d) fun xs => k (.new (.lst xs))
  | _ => False
theorem dList_ok : CallS K (fun xs H Q => ∃ p ys, xs = [.ref p] ∧ (SqL K H p ys ∨ SqT K H p ys) ∧ ∀ l, H l = none → Q (.ref l) (upd H l (.lst ys))) dList := by
  intro E F H σ a vs ds Q k R h ho l
  unfold dList at ho
  split at ho
  · obtain ⟨xs, s, ho⟩ := onO_iff.mp ho
    cases h with
    | cons h t =>
      cases t
      obtain ⟨p, ws, rfl, hp, r⟩ := h.seq R.ext s
      exact ⟨p, ws, rfl, hp, new_lst R r l ho⟩
  · exact ho.elim
/-- tuple(xs) of a list -/
def dTupL : DCall := fun ds k => match ds with
  | [.lst xs] => k (.dat (.tup xs))
  | [.rol xs] => k (.dat (.tup xs))
  | [.tup xs] => k (.dat (.tup xs))
  | _ => False
theorem dTupL_ok : CallS K (fun xs H Q => ∃ p ys, xs = [.ref p] ∧ ((SqL K H p ys ∧ ∀ l, H l = none → Q (.ref l) (upd H l (.tup ys))) ∨ (SqT K H p ys ∧ Q (.ref p) H))) dTupL := by
  intro E F H σ a vs ds Q k R h ho l
  unfold dTupL at ho
  split at ho
  · cases h with
    | cons h t =>
      cases t
      obtain ⟨p, ws, rfl, hp, r⟩ := h.lst R.ext
      exact ⟨p, ws, rfl, .inl ⟨.of hp, new_tup R r l ho⟩⟩
  · cases h with
    | cons h t =>
      cases t
      obtain ⟨p, ws, rfl, hp, r⟩ := h.rol R.ext
      exact ⟨p, ws, rfl, .inl ⟨hp, new_tup R r l ho⟩⟩
  · cases h with
    | cons h t =>
      cases t
      rcases h with h | ⟨p, rfl, o, hp, t⟩
      · have h' := h
        cases h with
        | tup hp r => exact ⟨_, _, rfl, .inr ⟨.of (R.ext _ _ hp), l _ (.dat _) F H (Same.refl F) R h' ho⟩⟩
      · cases t
  · exact ho.elim
def dSum : DCall := fun ds k => match ds with
  | [d] => ∃ (xs : List D) (ns : List Int), (d = .lst xs ∨ d = .rol xs) ∧ xs = ns.map D.int ∧ k (.dat (.int ns.sum))
  | _ => False
theorem dSum_ok : CallS K (rSum K) dSum := by
  intro E F H σ a vs ds Q k R h ho l
  unfold dSum at ho
  split at ho
  · obtain ⟨xs, ns, s, rfl, ho⟩ := ho
    cases h with
    | cons h t =>
      cases t
      rcases s with rfl | rfl
      · obtain ⟨p, ws, rfl, hp, r⟩ := h.lst R.ext
        obtain rfl := r.ints
        exact ⟨p, ns, rfl, .of hp, l _ (.dat _) F H (Same.refl F) R (Rep.int _) ho⟩
      · obtain ⟨p, ws, rfl, hp, r⟩ := h.rol R.ext
        obtain rfl := r.ints
        exact ⟨p, ns, rfl, hp, l _ (.dat _) F H (Same.refl F) R (Rep.int _) ho⟩
  · exact ho.elim
/-! isinstance(x, T), T a built-in class -/
def tyD : D → Option String
  | .non => some "NoneType"
  | .bl _ => some "bool"
  | .int _ => some "int"
  | .str _ => some "str"
  | .lst _ => some "list"
  | .tup _ => some "tuple"
  | .dK _ => some "dict"
  | .dT _ => some "dict"
  | _ => none
/-- isinstance of data: the answers, as the model's own text gives them -/
def isiB (x : D) (n : TyN) : Option Bool := match x with
  | .non => some false
  | .bl _ => some (match n with | .bool => true | .int => true | _ => false)
  | .int _ => some (match n with | .int => true | _ => false)
  | .str _ => some (match n with | .str => true | _ => false)
  | .lst _ => some (match n with | .list => true | _ => false)
  | .tup _ => some (match n with | .tuple => true | _ => false)
  | .dK _ => some (match n with | .dict => true | _ => false)
  | .dT _ => some (match n with | .dict => true | _ => false)
  | _ => none
def dIsi : DCall := fun ds k => match ds with
  | [x, .ty n] => onO (isiB x n) fun b => k (.dat (.bl b))
  | _ => False
theorem RdD.tyX {E : En} {F H : Hp} {σ : L2.St} {a : PSt} (R : Rel K E F H σ a) {v : V} {d : D} {m : String} (h : RdD K F H v d) (s : tyD d = some m) : TyX K H v (.type m) := by
  cases d with
  | non => cases s; rw [h.non]; exact .base .non
  | bl b => cases s; rw [h.bl]; exact .base (.bl b)
  | int b => cases s; rw [h.int]; exact .base (.int b)
  | str b => cases s; rw [h.str]; exact .base (.str b)
  | lst xs => cases s; obtain ⟨p, ws, rfl, hp, r⟩ := h.lst R.ext; exact .base (.lst hp)
  | tup xs => cases s; obtain ⟨p, ws, rfl, hp, r⟩ := h.tup R.ext; exact .base (.tup hp)
  | dK xs => cases s; obtain ⟨p, ws, rfl, hp, r⟩ := h.dK R.ext; exact .base (.dK hp)
  | dT xs => cases s; obtain ⟨p, ws, rfl, hp, r⟩ := h.dT R.ext; exact .base (.dT hp)
  | _ => cases s
theorem isiB_of {x : D} {n : TyN} {b : Bool} (h : isiB x n = some b) : ∃ m, tyD x = some m ∧ kitB m n.s = some b := by
  cases x <;> first
    | (cases h; done)
    | (refine ⟨_, rfl, ?_⟩
       cases n <;> (cases h; decide +kernel))
theorem dIsi_ok : CallS K (rIsi K) dIsi := by
  intro E F H σ a vs ds Q k R h ho l
  unfold dIsi at ho
  split at ho
  · obtain ⟨b, hb, ho⟩ := onO_iff.mp ho
    obtain ⟨m, s, kb⟩ := isiB_of hb
    cases h with
    | cons h t => cases t with
      | cons h' t =>
        cases t
        obtain rfl := h'.ty
        exact ⟨_, _, _, _, b, rfl, .ty _, h.tyX R s, kit_ty kb, l _ (.dat _) F H (Same.refl F) R (Rep.bl _) ho⟩
  · exact ho.elim
end
end DS

namespace DS
open PySem PySem.Spec PyProof.Rows L2

/-! ### what a def does, as its caller sees it -/
abbrev Spec := List AV → (AV → List AV → Prop) → (Exc → List AV → Prop) → Prop
def LentAt (vs : List V) (as : List AV) (p : Addr) : Prop := ∃ (k : Nat) (c : D), as[k]? = some ⟨.lent, c⟩ ∧ vs[k]? = some (.ref p)
structure ArgsOk (K : PySem.W.Frag) (F H : Hp) (vs : List V) (as : List AV) : Prop where
  ext : Same F H
  len : vs.length = as.length
  at_ : ∀ (k : Nat) (av : AV), as[k]? = some av → ∃ v, vs[k]? = some v ∧ (av.o = .no → Rep K F v av.c) ∧ (av.o ≠ .no → av.o = .lent ∧ ∃ p, v = .ref p ∧ F p = none ∧ TopAt K F H p av.c)
  dis : ∀ (i j : Nat) (ai aj : AV) (p : Addr), i ≠ j → as[i]? = some ai → as[j]? = some aj → ai.o ≠ .no → aj.o ≠ .no → vs[i]? = some (.ref p) → vs[j]? = some (.ref p) → False
structure Post (K : PySem.W.Frag) (F H : Hp) (vs : List V) (as : List AV) (F' H' : Hp) (as' : List AV) : Prop where
  f : Same F F'
  ext : Same F' H'
  new : ∀ p o, F' p = some o → F p = some o ∨ H p = none ∨ ∃ xs, o = .tup xs
  keep : ∀ p o, H p = some o → ¬ LentAt vs as p → H' p = some o
  dom : ∀ p, H' p = none → H p = none
  lent : ∀ (k : Nat) (c : D) (p : Addr), as[k]? = some ⟨.lent, c⟩ → vs[k]? = some (.ref p) → ∃ c', as'[k]? = some ⟨.lent, c'⟩ ∧ F' p = none ∧ TopAt K F' H' p c'
def RetOk (K : PySem.W.Frag) (H F' H' : Hp) (v : V) (r : AV) : Prop := match r.o with
  | .no => Rep K F' v r.c
  | _ => ∃ p, v = .ref p ∧ F' p = none ∧ H p = none ∧ TopAt K F' H' p r.c
/-- the promise -/
def spOf (K : PySem.W.Frag) (spec : Spec) : Sp := fun vs H Q E => ∃ F as Q0 Qe0, ArgsOk K F H vs as ∧ spec as Q0 Qe0 ∧
  (∀ r as', Q0 r as' → ∀ v F' H', Post K F H vs as F' H' as' → RetOk K H F' H' v r → Q v H') ∧
  (∀ x as', Qe0 x as' → ∀ cls dx F' H', Post K F H vs as F' H' as' → ExcR K F' H' x cls dx → E cls dx H')

/-! ### a call -/
def isOwn (a : PSt) (i : Nat) : Bool := match a[i]? with
  | some (some ⟨.own, _⟩) => true
  | some (some ⟨.lent, _⟩) => true
  | _ => false
def hasSlot (i : Nat) : List Res → Bool
  | [] => false
  | .slot j :: rs => (i == j) || hasSlot i rs
  | _ :: rs => hasSlot i rs
def sep (a : PSt) : List Res → Bool
  | [] => true
  | .slot i :: rs => (!isOwn a i || !hasSlot i rs) && sep a rs
  | _ :: rs => sep a rs
def avOf (a : PSt) : Res → Option AV
  | .dat d => some ⟨.no, d⟩
  | .new d => none
  | .slot i => match a[i]? with
    | some (some ⟨.no, c⟩) => some ⟨.no, c⟩
    | some (some ⟨_, c⟩) => some ⟨.lent, c⟩
    | _ => none
def avsOf (a : PSt) : List Res → Option (List AV)
  | [] => some []
  | r :: rs => match avOf a r, avsOf a rs with
    | some d, some ds => some (d :: ds)
    | _, _ => none
/-- behind the call: what was lent comes back -/
def putBack : PSt → List Res → List AV → PSt
  | a, [], _ => a
  | a, _ :: _, [] => a
  | a, .slot i :: rs, av :: as => match a[i]? with
    | some (some ⟨.own, _⟩) => putBack (a.set i (some ⟨.own, av.c⟩)) rs as
    | some (some ⟨.lent, _⟩) => putBack (a.set i (some ⟨.lent, av.c⟩)) rs as
    | _ => putBack a rs as
  | a, _ :: rs, _ :: as => putBack a rs as
def resOf : AV → Res
  | ⟨.no, d⟩ => .dat d
  | ⟨_, d⟩ => .new d
theorem putBack_other : ∀ (rs : List Res) (a : PSt) (as : List AV) (j : Nat), (isOwn a j = false ∨ hasSlot j rs = false) → (putBack a rs as)[j]? = a[j]?
  | [], a, as, j, _ => by cases as <;> rfl
  | r :: rs, a, [], j, _ => by cases r <;> rfl
  | .dat d :: rs, a, av :: as, j, h => putBack_other rs a as j h
  | .new d :: rs, a, av :: as, j, h => putBack_other rs a as j h
  | .slot i :: rs, a, av :: as, j, h => by
    have hs : ∀ o c, (∃ c', a[i]? = some (some ⟨o, c'⟩)) → o ≠ .no → i ≠ j ∧ (putBack (a.set i (some ⟨o, c⟩)) rs as)[j]? = a[j]? := by
      intro o c ⟨c', e⟩ ho
      have hij : i ≠ j := fun z => by
        subst z
        rcases h with h | h
        · unfold isOwn at h
          rw [e] at h
          cases o <;> first | exact ho rfl | cases h
        · simp [hasSlot] at h
      refine ⟨hij, ?_⟩
      rw [putBack_other rs _ as j ?_, List.getElem?_set_ne hij]
      rcases h with h | h
      · exact .inl (by unfold isOwn at *; rw [List.getElem?_set_ne hij]; exact h)
      · refine .inr ?_
        simp only [hasSlot, Bool.or_eq_false_iff] at h
        exact h.2
    unfold putBack
    split
    · exact (hs .own _ ⟨_, by assumption⟩ (by simp)).2
    · exact (hs .lent _ ⟨_, by assumption⟩ (by simp)).2
    · refine putBack_other rs a as j ?_
      rcases h with h | h
      · exact .inl h
      · simp only [hasSlot, Bool.or_eq_false_iff] at h
        exact .inr h.2
theorem putBack_length : ∀ (rs : List Res) (a : PSt) (as : List AV), (putBack a rs as).length = a.length
  | [], a, as => by cases as <;> rfl
  | r :: rs, a, [] => by cases r <;> rfl
  | .dat d :: rs, a, av :: as => putBack_length rs a as
  | .new d :: rs, a, av :: as => putBack_length rs a as
  | .slot i :: rs, a, av :: as => by
    unfold putBack
    split
    · rw [putBack_length, List.length_set]
    · rw [putBack_length, List.length_set]
    · exact putBack_length rs a as
theorem sep_set {a : PSt} {i : Nat} {o : Ow} {c c' : D} (e : a[i]? = some (some ⟨o, c⟩)) : ∀ (rs : List Res), sep (a.set i (some ⟨o, c'⟩)) rs = sep a rs
  | [] => rfl
  | .dat _ :: rs => by unfold sep; exact sep_set e rs
  | .new _ :: rs => by unfold sep; exact sep_set e rs
  | .slot j :: rs => by
    unfold sep
    rw [sep_set e rs]
    have : isOwn (a.set i (some ⟨o, c'⟩)) j = isOwn a j := by
      unfold isOwn
      by_cases h : i = j
      · subst h
        rw [List.getElem?_set_self (List.getElem?_eq_some_iff.mp e).1, e]
        cases o <;> rfl
      · rw [List.getElem?_set_ne h]
    rw [this]
theorem putBack_at : ∀ (rs : List Res) (a : PSt) (as : List AV) (k j : Nat) (o : Ow) (c : D) (av : AV), sep a rs = true → rs[k]? = some (.slot j) → a[j]? = some (some ⟨o, c⟩) → o ≠ .no → as[k]? = some av →
    (putBack a rs as)[j]? = some (some ⟨o, av.c⟩)
  | [], _, _, _, _, _, _, _, _, h, _, _, _ => by simp at h
  | _ :: _, _, [], _, _, _, _, _, _, _, _, _, h => by simp at h
  | r :: rs, a, x :: as, 0, j, o, c, av, hs, h, e, ho, hx => by
    simp at h hx
    subst h hx
    unfold putBack
    unfold sep at hs
    have hown : isOwn a j = true := by
      unfold isOwn
      rw [e]
      cases o <;> first | exact absurd rfl ho | rfl
    rw [Bool.and_eq_true, hown] at hs
    have hns : hasSlot j rs = false := by simpa using hs.1
    rw [e]
    have hj := (List.getElem?_eq_some_iff.mp e).1
    cases o with
    | no => exact absurd rfl ho
    | own => simp only; rw [putBack_other _ _ _ _ (.inr hns), List.getElem?_set_self hj]
    | lent => simp only; rw [putBack_other _ _ _ _ (.inr hns), List.getElem?_set_self hj]
  | .dat _ :: rs, a, x :: as, k + 1, j, o, c, av, hs, h, e, ho, hx => by
    simp at h hx
    exact putBack_at rs a as k j o c av hs h e ho hx
  | .new _ :: rs, a, x :: as, k + 1, j, o, c, av, hs, h, e, ho, hx => by
    simp at h hx
    exact putBack_at rs a as k j o c av hs h e ho hx
  | .slot i :: rs, a, x :: as, k + 1, j, o, c, av, hs, h, e, ho, hx => by
    simp at h hx
    unfold sep at hs
    rw [Bool.and_eq_true] at hs
    unfold putBack
    have hin : hasSlot j rs = true := by
      clear hs hx e
      induction rs generalizing k with
      | nil => simp at h
      | cons r rs ih =>
        cases k with
        | zero => simp at h; subst h; simp [hasSlot]
        | succ k =>
          simp at h
          have := ih k h
          cases r with
          | slot m => simp [hasSlot, this]
          | dat d => exact this
          | new d => exact this
    have hij : isOwn a i = true → i ≠ j := fun hi z => by
      subst z
      rw [hi, hin] at hs
      simp at hs
    have go : ∀ o', (∃ c', a[i]? = some (some ⟨o', c'⟩)) → o' ≠ .no → (putBack (a.set i (some ⟨o', x.c⟩)) rs as)[j]? = some (some ⟨o, av.c⟩) := by
      intro o' ⟨c', e'⟩ ho'
      have hne : i ≠ j := hij (by
        unfold isOwn
        rw [e']
        cases o' <;> first | exact absurd rfl ho' | rfl)
      exact putBack_at rs _ as k j o c av (by rw [sep_set e']; exact hs.2) h (by rw [List.getElem?_set_ne hne]; exact e) ho hx
    split
    · exact go .own ⟨_, by assumption⟩ (by simp)
    · exact go .lent ⟨_, by assumption⟩ (by simp)
    · exact putBack_at rs a as k j o c av hs.2 h e ho hx
theorem avOf_slot {a : PSt} {s : Nat} {av : AV} (h : avOf a (.slot s) = some av) : (∃ c, a[s]? = some (some ⟨.no, c⟩) ∧ av = ⟨.no, c⟩) ∨ ∃ o c, a[s]? = some (some ⟨o, c⟩) ∧ o ≠ .no ∧ isOwn a s = true ∧ av = ⟨.lent, c⟩ := by
  simp only [avOf] at h
  split at h
  · cases h; exact .inl ⟨_, by assumption, rfl⟩
  · rename_i o c hno e
    cases h
    have ho : o ≠ .no := fun z => hno z
    refine .inr ⟨o, c, e, ho, ?_, rfl⟩
    unfold isOwn
    rw [e]
    cases o <;> first | exact absurd rfl ho | rfl
  · cases h
theorem avsOf_get {a : PSt} : ∀ {rs : List Res} {as : List AV}, avsOf a rs = some as → as.length = rs.length ∧ ∀ (k : Nat) (av : AV), as[k]? = some av → ∃ r, rs[k]? = some r ∧ avOf a r = some av
  | [], _, h => by cases h; exact ⟨rfl, fun k av h => by simp at h⟩
  | r :: rs, as, h => by
    unfold avsOf at h
    split at h
    · cases h
      rename_i h1 h2
      obtain ⟨l, q⟩ := avsOf_get h2
      refine ⟨by simp [l], fun k av hk => ?_⟩
      cases k with
      | zero => simp at hk; subst hk; exact ⟨r, rfl, h1⟩
      | succ k => simp at hk; exact q k av hk
    · cases h
theorem paired_get {α β : Type} {P : α → β → Prop} : ∀ {xs : List α} {ys : List β} {k : Nat} {y : β}, Paired P xs ys → ys[k]? = some y → ∃ x, xs[k]? = some x ∧ P x y
  | _, _, _, _, .nil, h => by simp at h
  | _, _, 0, _, .cons r _, h => by simp at h; subst h; exact ⟨_, rfl, r⟩
  | _, _, k + 1, y, .cons _ t, h => by
    obtain ⟨x, h1, h2⟩ := paired_get (k := k) (y := y) t (by simpa using h)
    exact ⟨x, by simpa using h1, h2⟩
/-- two places of one owned slot -/
theorem sep_dis {a : PSt} : ∀ {rs : List Res} {i j s : Nat}, sep a rs = true → i ≠ j → rs[i]? = some (.slot s) → rs[j]? = some (.slot s) → isOwn a s = true → False
  | [], _, _, _, _, _, h, _, _ => by simp at h
  | r :: rs, 0, 0, _, _, n, _, _, _ => n rfl
  | r :: rs, 0, j + 1, s, hs, _, h1, h2, ho => by
    simp at h1 h2
    subst h1
    unfold sep at hs
    have hin : hasSlot s rs = true := by
      clear hs
      induction rs generalizing j with
      | nil => simp at h2
      | cons r rs ih =>
        cases j with
        | zero => simp at h2; subst h2; simp [hasSlot]
        | succ k =>
          simp at h2
          have := ih k (by omega) h2
          cases r with
          | slot m => simp [hasSlot, this]
          | dat d => exact this
          | new d => exact this
    rw [ho, hin] at hs
    simp at hs
  | r :: rs, i + 1, 0, s, hs, n, h1, h2, ho => sep_dis (rs := r :: rs) (i := 0) (j := i + 1) hs (by omega) h2 h1 ho
  | r :: rs, i + 1, j + 1, s, hs, n, h1, h2, ho => by
    simp at h1 h2
    have hs' : sep a rs = true := by
      cases r with
      | slot m => unfold sep at hs; rw [Bool.and_eq_true] at hs; exact hs.2
      | dat d => exact hs
      | new d => exact hs
    exact sep_dis hs' (by omega) h1 h2 ho
section
variable {K : PySem.W.Frag} {E : En} {F F' H H' : Hp} {σ : L2.St} {a : PSt}
theorem args_ok (R : Rel K E F H σ a) {vs : List V} {rs : List Res} {as : List AV} (rp : RepRs K E F H σ a vs rs) (hs : sep a rs = true) (ha : avsOf a rs = some as) : ArgsOk K F H vs as := by
  obtain ⟨hl, hg⟩ := avsOf_get ha
  have key : ∀ (k : Nat) (av : AV), as[k]? = some av → av.o ≠ .no → ∃ s, rs[k]? = some (.slot s) ∧ isOwn a s = true := fun k av h ho => by
    obtain ⟨r, h1, h2⟩ := hg k av h
    cases r with
    | dat d => cases h2; exact absurd rfl ho
    | new d => cases h2
    | slot s =>
      rcases avOf_slot h2 with ⟨c, e, rfl⟩ | ⟨o, c, e, hne, w, rfl⟩
      · exact absurd rfl ho
      · exact ⟨s, h1, w⟩
  refine ⟨R.ext, by rw [hl]; exact Paired.length rp, fun k av h => ?_, fun i j ai aj p hij h1 h2 o1 o2 v1 v2 => ?_⟩
  · obtain ⟨r, h1, h2⟩ := hg k av h
    obtain ⟨v, h3, h4⟩ := paired_get rp h1
    refine ⟨v, h3, ?_⟩
    cases r with
    | dat d => cases h2; exact ⟨fun _ => h4, fun z => absurd rfl z⟩
    | new d => cases h2
    | slot s =>
      have hv : σ[s]? = some (some v) := h4
      rcases avOf_slot h2 with ⟨c, e, rfl⟩ | ⟨o, c, e, hne, w, rfl⟩
      · obtain ⟨u, e1, q⟩ := R.sl s _ e
        rw [hv] at e1
        cases e1
        exact ⟨fun _ => q, fun z => absurd rfl z⟩
      · refine ⟨fun z => (by cases z), fun _ => ⟨rfl, ?_⟩⟩
        obtain ⟨u, e1, q⟩ := R.sl s _ e
        rw [hv] at e1
        cases e1
        cases o with
        | no => exact absurd rfl hne
        | own => obtain ⟨p, e2, g1, g2, g3⟩ := q; exact ⟨p, e2, g1, g3⟩
        | lent => obtain ⟨p, e2, g1, g2, g4, g3⟩ := q; exact ⟨p, e2, g1, g3⟩
  · obtain ⟨s1, r1, w1⟩ := key i ai h1 o1
    obtain ⟨s2, r2, w2⟩ := key j aj h2 o2
    obtain ⟨u1, x1, y1⟩ := paired_get rp r1
    obtain ⟨u2, x2, y2⟩ := paired_get rp r2
    rw [v1] at x1
    cases x1
    rw [v2] at x2
    cases x2
    have y1' : σ[s1]? = some (some (.ref p)) := y1
    have y2' : σ[s2]? = some (some (.ref p)) := y2
    by_cases e : s1 = s2
    · subst e
      exact sep_dis hs hij r1 r2 w1
    · have fl : ∀ s, isOwn a s = true → ∃ av : AV, a[s]? = some (some av) ∧ av.o ≠ .no := fun s h => by
        unfold isOwn at h
        split at h
        · exact ⟨_, by assumption, by simp⟩
        · exact ⟨_, by assumption, by simp⟩
        · cases h
      obtain ⟨b1, f1, g1⟩ := fl s1 w1
      obtain ⟨b2, f2, g2⟩ := fl s2 w2
      exact R.dis s1 s2 b1 b2 p e f1 f2 g1 g2 y1' y2'
/-- the caller's state behind the call -/
theorem rel_back (R : Rel K E F H σ a) {vs : List V} {rs : List Res} {as as' : List AV} (rp : RepRs K E F H σ a vs rs) (hs : sep a rs = true) (ha : avsOf a rs = some as) (P : Post K F H vs as F' H' as') :
    Rel K E F' H' σ (putBack a rs as') := by
  obtain ⟨hl, hg⟩ := avsOf_get ha
  -- a lent address is some slot's
  have lent_own : ∀ p, LentAt vs as p → Owned σ a p ∧ ∃ (k s : Nat), rs[k]? = some (.slot s) ∧ σ[s]? = some (some (.ref p)) ∧ isOwn a s = true := fun p ⟨k, c, h1, h2⟩ => by
    obtain ⟨r, h3, h4⟩ := hg k _ h1
    obtain ⟨v, h5, h6⟩ := paired_get rp h3
    rw [h2] at h5
    cases h5
    cases r with
    | dat d => cases h4
    | new d => cases h4
    | slot s =>
      have hv : σ[s]? = some (some (.ref p)) := h6
      rcases avOf_slot h4 with ⟨c', e, z⟩ | ⟨o, c', e, hne, w, z⟩
      · cases z
      · exact ⟨⟨s, _, e, hne, hv⟩, k, s, h3, hv, w⟩
  have nolent : ∀ p, E.H p ≠ none → ¬ E.L p → ¬ LentAt vs as p := fun p h1 h2 h => by
    obtain ⟨⟨i, av, e1, e2, e3⟩, _⟩ := lent_own p h
    obtain ⟨v, f1, f2⟩ := R.sl i av e1
    rw [e3] at f1
    cases f1
    obtain ⟨o, c⟩ := av
    cases o with
    | no => exact e2 rfl
    | own => obtain ⟨q, g1, _, g2, _⟩ := f2; cases g1; exact h1 g2
    | lent => obtain ⟨q, g1, _, g2, _⟩ := f2; cases g1; exact h2 g2
  -- flags stay
  have flag : ∀ (j : Nat) (av : AV), (putBack a rs as')[j]? = some (some av) → av.o ≠ .no → ∃ c, a[j]? = some (some ⟨av.o, c⟩) ∧ ((isOwn a j = true ∧ hasSlot j rs = true) ∨ c = av.c) := fun j av h ho => by
    by_cases hb : isOwn a j = true ∧ hasSlot j rs = true
    · have ho' := hb.1
      unfold isOwn at ho'
      have hk : ∃ k : Nat, rs[k]? = some (Res.slot j) := by
        have h2 := hb.2
        clear h hg rp ha hs hb P hl lent_own nolent
        induction rs with
        | nil => cases h2
        | cons r rs ih =>
          cases r with
          | slot m =>
            simp only [hasSlot, Bool.or_eq_true, beq_iff_eq] at h2
            rcases h2 with h2 | h2
            · exact ⟨0, by simp [h2]⟩
            · obtain ⟨k, hk⟩ := ih h2
              exact ⟨k + 1, by simpa using hk⟩
          | dat d => obtain ⟨k, hk⟩ := ih h2; exact ⟨k + 1, by simpa using hk⟩
          | new d => obtain ⟨k, hk⟩ := ih h2; exact ⟨k + 1, by simpa using hk⟩
      obtain ⟨k, hk⟩ := hk
      have go : ∀ o c, a[j]? = some (some ⟨o, c⟩) → o ≠ .no → ∃ c, a[j]? = some (some ⟨av.o, c⟩) ∧ ((isOwn a j = true ∧ hasSlot j rs = true) ∨ c = av.c) := fun o c e hne => by
        have hk2 : as[k]? = some ⟨.lent, c⟩ := by
          have hlt : k < as.length := by rw [hl]; exact (List.getElem?_eq_some_iff.mp hk).1
          obtain ⟨r, h1, h2⟩ := hg k as[k] (List.getElem?_eq_getElem hlt)
          rw [hk] at h1
          cases h1
          rw [List.getElem?_eq_getElem hlt]
          rcases avOf_slot h2 with ⟨c', e', z⟩ | ⟨o', c', e', hne', w, z⟩
          · rw [e] at e'; cases e'; exact absurd rfl hne
          · rw [e] at e'; cases e'; rw [z]
        obtain ⟨v, h5, h6⟩ := paired_get rp hk
        have hv : σ[j]? = some (some v) := h6
        obtain ⟨u, f1, f2⟩ := R.sl j _ e
        rw [hv] at f1
        cases f1
        obtain ⟨p, rfl⟩ : ∃ p, v = .ref p := by
          cases o with
          | no => exact absurd rfl hne
          | own => obtain ⟨q, g1, _⟩ := f2; exact ⟨q, g1⟩
          | lent => obtain ⟨q, g1, _⟩ := f2; exact ⟨q, g1⟩
        obtain ⟨c', q1, _, _⟩ := P.lent k c p hk2 h5
        have := putBack_at rs a as' k j o c _ hs hk e hne q1
        rw [h] at this
        cases this
        exact ⟨c, e, .inl hb⟩
      split at ho'
      · exact go _ _ (by assumption) (by simp)
      · exact go _ _ (by assumption) (by simp)
      · cases ho'
    · have hb' : isOwn a j = false ∨ hasSlot j rs = false := by
        cases h1 : isOwn a j with
        | false => exact .inl rfl
        | true =>
          cases h2 : hasSlot j rs with
          | false => exact .inr rfl
          | true => exact absurd ⟨h1, h2⟩ hb
      rw [putBack_other rs a as' j hb'] at h
      exact ⟨av.c, h, .inr rfl⟩
  refine ⟨P.ext, R.f0.trans P.f, fun p o h => ?_, fun p o h1 h2 => P.keep p o (R.keep p o h1 h2) (nolent p (by rw [h1]; exact fun z => by cases z) h2), fun p h => R.dom p (P.dom p h), R.lt, by rw [putBack_length]; exact R.len, fun j av h => ?_, fun i j ai aj p hij h1 h2 o1 o2 s1 s2 => ?_⟩
  · rcases P.new p o h with h | h | h
    · exact R.new p o h
    · exact .inr (.inl (R.dom p h))
    · exact .inr (.inr h)
  · by_cases hno : av.o = .no
    · -- data
      have hb : isOwn a j = false ∨ hasSlot j rs = false := by
        cases h1 : isOwn a j with
        | false => exact .inl rfl
        | true =>
          cases h2 : hasSlot j rs with
          | false => exact .inr rfl
          | true =>
            exfalso
            have h1' := h1
            unfold isOwn at h1'
            have hk : ∃ k : Nat, rs[k]? = some (Res.slot j) := by
              clear h hg rp ha hs P hl lent_own nolent flag
              induction rs with
              | nil => cases h2
              | cons r rs ih =>
                cases r with
                | slot m =>
                  simp only [hasSlot, Bool.or_eq_true, beq_iff_eq] at h2
                  rcases h2 with h2 | h2
                  · exact ⟨0, by simp [h2]⟩
                  · obtain ⟨k, hk⟩ := ih h2
                    exact ⟨k + 1, by simpa using hk⟩
                | dat d => obtain ⟨k, hk⟩ := ih h2; exact ⟨k + 1, by simpa using hk⟩
                | new d => obtain ⟨k, hk⟩ := ih h2; exact ⟨k + 1, by simpa using hk⟩
            obtain ⟨k, hk⟩ := hk
            have go : ∀ o c, a[j]? = some (some ⟨o, c⟩) → o ≠ .no → False := fun o c e hne => by
              have hk2 : as[k]? = some ⟨.lent, c⟩ := by
                have hlt : k < as.length := by rw [hl]; exact (List.getElem?_eq_some_iff.mp hk).1
                obtain ⟨r, h1, h2⟩ := hg k as[k] (List.getElem?_eq_getElem hlt)
                rw [hk] at h1
                cases h1
                rw [List.getElem?_eq_getElem hlt]
                rcases avOf_slot h2 with ⟨c', e', z⟩ | ⟨o', c', e', hne', w, z⟩
                · rw [e] at e'; cases e'; exact absurd rfl hne
                · rw [e] at e'; cases e'; rw [z]
              obtain ⟨v, h5, h6⟩ := paired_get rp hk
              have hv : σ[j]? = some (some v) := h6
              obtain ⟨u, f1, f2⟩ := R.sl j _ e
              rw [hv] at f1
              cases f1
              obtain ⟨p, rfl⟩ : ∃ p, v = .ref p := by
                cases o with
                | no => exact absurd rfl hne
                | own => obtain ⟨q, g1, _⟩ := f2; exact ⟨q, g1⟩
                | lent => obtain ⟨q, g1, _⟩ := f2; exact ⟨q, g1⟩
              obtain ⟨c', q1, _, _⟩ := P.lent k c p hk2 h5
              have := putBack_at rs a as' k j o c _ hs hk e hne q1
              rw [h] at this
              cases this
              exact hne hno
            split at h1'
            · exact go _ _ (by assumption) (by simp)
            · exact go _ _ (by assumption) (by simp)
            · cases h1'
      rw [putBack_other rs a as' j hb] at h
      obtain ⟨v, e1, q⟩ := R.sl j av h
      refine ⟨v, e1, ?_⟩
      obtain ⟨o, c⟩ := av
      obtain rfl : o = .no := hno
      exact Rep.mono P.f q
    · obtain ⟨c, e, hc⟩ := flag j av h hno
      obtain ⟨v, e1, q⟩ := R.sl j _ e
      obtain ⟨p, rfl⟩ : ∃ p, v = .ref p := by
        obtain ⟨o, c0⟩ := av
        cases o with
        | no => exact absurd rfl hno
        | own => obtain ⟨p, g1, _⟩ := q; exact ⟨p, g1⟩
        | lent => obtain ⟨p, g1, _⟩ := q; exact ⟨p, g1⟩
      refine ⟨.ref p, e1, ?_⟩
      have fin : F' p = none ∧ TopAt K F' H' p av.c := by
        by_cases hL : LentAt vs as p
        · obtain ⟨_, k, s, h3, h4, h5⟩ := lent_own p hL
          have hsj : s = j := by
            by_cases z : s = j
            · exact z
            · exfalso
              have fl : ∃ av : AV, a[s]? = some (some av) ∧ av.o ≠ .no := by
                unfold isOwn at h5
                split at h5
                · exact ⟨_, by assumption, by simp⟩
                · exact ⟨_, by assumption, by simp⟩
                · cases h5
              obtain ⟨b1, f1, g1⟩ := fl
              exact R.dis s j b1 _ p z f1 e g1 hno h4 e1
          subst hsj
          obtain ⟨k', c', h6, h7⟩ := hL
          obtain ⟨c'', q1, q2, q3⟩ := P.lent k' c' p h6 h7
          -- the place k' is the slot's too
          obtain ⟨r, h8, h9⟩ := hg k' _ h6
          obtain ⟨v', h10, h11⟩ := paired_get rp h8
          rw [h7] at h10
          cases h10
          cases r with
          | dat d => cases h9
          | new d => cases h9
          | slot s' =>
            have hs' : s' = s := by
              by_cases z : s' = s
              · exact z
              · exfalso
                have hv' : σ[s']? = some (some (.ref p)) := h11
                rcases avOf_slot h9 with ⟨c2, e2, y⟩ | ⟨o2, c2, e2, hne2, w, y⟩
                · cases y
                · exact R.dis s' s _ _ p z e2 e hne2 hno hv' e1
            subst hs'
            have := putBack_at rs a as' k' s' av.o c _ hs h8 e hno q1
            rw [h] at this
            have : av.c = c'' := congrArg AV.c (Option.some.inj (Option.some.inj this))
            rw [this]
            exact ⟨q2, q3⟩
        · have hc' : c = av.c := by
            rcases hc with ⟨h1, h2⟩ | hc
            · exfalso
              apply hL
              have hk : ∃ k : Nat, rs[k]? = some (Res.slot j) := by
                clear h hg rp ha hs P hl lent_own nolent flag hL h1
                induction rs with
                | nil => cases h2
                | cons r rs ih =>
                  cases r with
                  | slot m =>
                    simp only [hasSlot, Bool.or_eq_true, beq_iff_eq] at h2
                    rcases h2 with h2 | h2
                    · exact ⟨0, by simp [h2]⟩
                    · obtain ⟨k, hk⟩ := ih h2
                      exact ⟨k + 1, by simpa using hk⟩
                  | dat d => obtain ⟨k, hk⟩ := ih h2; exact ⟨k + 1, by simpa using hk⟩
                  | new d => obtain ⟨k, hk⟩ := ih h2; exact ⟨k + 1, by simpa using hk⟩
              obtain ⟨k, hk⟩ := hk
              refine ⟨k, c, ?_, ?_⟩
              · have hlt : k < as.length := by rw [hl]; exact (List.getElem?_eq_some_iff.mp hk).1
                obtain ⟨r, h1, h2⟩ := hg k as[k] (List.getElem?_eq_getElem hlt)
                rw [hk] at h1
                cases h1
                rw [List.getElem?_eq_getElem hlt]
                rcases avOf_slot h2 with ⟨c', e', z⟩ | ⟨o', c', e', hne', w, z⟩
                · rw [e] at e'; exact absurd (congrArg AV.o (Option.some.inj (Option.some.inj e'))) hno
                · rw [e] at e'
                  have e2 := congrArg AV.c (Option.some.inj (Option.some.inj e'))
                  rw [z]
                  exact congrArg (fun d => some (AV.mk .lent d)) e2.symm
              · obtain ⟨v, h5, h6⟩ := paired_get rp hk
                have hv : σ[j]? = some (some v) := h6
                rw [e1] at hv
                cases hv
                exact h5
            · exact hc
          subst hc'
          have t := (show OwnAt K E F H j (.ref p) ⟨av.o, av.c⟩ from q).top hno
          have f := (show OwnAt K E F H j (.ref p) ⟨av.o, av.c⟩ from q).fnone hno
          obtain ⟨o, t1, t2⟩ := t
          refine ⟨?_, o, P.keep p o t1 hL, t2.mono P.f⟩
          cases hF : F' p with
          | none => rfl
          | some u =>
            rcases P.new p u hF with z | z | ⟨xs, rfl⟩
            · rw [f] at z; cases z
            · rw [t1] at z; cases z
            · have y1 := P.ext p _ hF
              have y2 := P.keep p o t1 hL
              rw [y1] at y2
              cases y2
              cases t2
      obtain ⟨o, c0⟩ := av
      cases o with
      | no => exact absurd rfl hno
      | own => obtain ⟨p', g1, _, g2, _⟩ := q; cases g1; exact ⟨_, rfl, fin.1, g2, fin.2⟩
      | lent => obtain ⟨p', g1, _, g2, g3, _⟩ := q; cases g1; exact ⟨_, rfl, fin.1, g2, g3, fin.2⟩
  · obtain ⟨c1, e1, _⟩ := flag i ai h1 o1
    obtain ⟨c2, e2, _⟩ := flag j aj h2 o2
    exact R.dis i j _ _ p hij e1 e2 o1 o2 s1 s2
theorem ret_back (R : Rel K E F H σ a) {vs : List V} {rs : List Res} {as as' : List AV} {v : V} {r : AV} (P : Post K F H vs as F' H' as') (h : RetOk K H F' H' v r) (ho : ∀ p, Owned σ (putBack a rs as') p → H p ≠ none) :
    RepR K E F' H' σ (putBack a rs as') v (resOf r) := by
  obtain ⟨o, d⟩ := r
  have own : (∃ p, v = .ref p ∧ F' p = none ∧ H p = none ∧ TopAt K F' H' p d) → RepR K E F' H' σ (putBack a rs as') v (.new d) := fun ⟨p, e, h1, h2, h3⟩ => ⟨p, e, h1, R.dom p h2, h3, fun z => ho p z h2⟩
  cases o with
  | no => exact h
  | own => exact own h
  | lent => exact own h
end
end DS

namespace DS
open PySem PySem.Spec PyProof.Rows L2

/-! ### the call of a def -/
section
variable {X : Cx} {W : L2.St → XK} {e : Expr} {es : List Expr} {pos : Pos} {ws : WA} {la : TA} {k : Nat} {fa : Addr} {fd : FuncData} {ps : List Str} {spec : Spec} {x : Str} {p : Pos}
/-- a call, as it stands -/
@[irreducible] def callS (spec : DS.Spec) (as : List AV) (Q : AV → List AV → Prop) : Prop := spec as Q (fun _ _ => False)
theorem callS_i {spec : DS.Spec} {as : List AV} {Q : AV → List AV → Prop} (h : spec as Q (fun _ _ => False)) : callS spec as Q := by unfold callS; exact h
theorem callS_d {spec : DS.Spec} {as : List AV} {Q : AV → List AV → Prop} (h : callS spec as Q) : spec as Q (fun _ _ => False) := by unfold callS at h; exact h
def wCall (spec : Spec) (ws : WA) : WE := fun a q qe => ws a (fun rs a1 => onO (avsOf a1 rs) fun as => br (sep a1 rs) (callS spec as fun r as' => q (resOf r) (putBack a1 rs as')) False) qe
theorem putBack_flag : ∀ (rs : List Res) (a : PSt) (as : List AV) (j : Nat) (av : AV), (putBack a rs as)[j]? = some (some av) → ∃ c, a[j]? = some (some ⟨av.o, c⟩)
  | [], a, as, j, av, h => ⟨av.c, by cases as <;> exact h⟩
  | r :: rs, a, [], j, av, h => ⟨av.c, by cases r <;> exact h⟩
  | .dat d :: rs, a, x :: as, j, av, h => putBack_flag rs a as j av h
  | .new d :: rs, a, x :: as, j, av, h => putBack_flag rs a as j av h
  | .slot i :: rs, a, x :: as, j, av, h => by
    have go : ∀ o c c', a[i]? = some (some ⟨o, c⟩) → (∃ c, (a.set i (some ⟨o, c'⟩))[j]? = some (some ⟨av.o, c⟩)) → ∃ c, a[j]? = some (some ⟨av.o, c⟩) := fun o c c' e ⟨d, hd⟩ => by
      by_cases hij : i = j
      · subst hij
        rw [List.getElem?_set_self (List.getElem?_eq_some_iff.mp e).1] at hd
        have := congrArg AV.o (Option.some.inj (Option.some.inj hd))
        simp only at this
        exact ⟨c, by rw [e, this]⟩
      · rw [List.getElem?_set_ne hij] at hd
        exact ⟨d, hd⟩
    unfold putBack at h
    split at h
    · exact go _ _ _ (by assumption) (putBack_flag rs _ as j av h)
    · exact go _ _ _ (by assumption) (putBack_flag rs _ as j av h)
    · exact putBack_flag rs a as j av h
theorem se_call (G : FnOk X.prog X.w X.K X.mg X.base CX0 k fa fd ps (spOf X.K spec)) (hr : Room k X.A) (hg : Gl X x) (hm : X.mg x = some (.ref fa)) (hk : PySem.W.keepIn X.K (.ref fa) = true) (hb : Binds X.K fd ps []) (ha : SA X W (e :: es) la ws)
    (hdb : (x == ("__debug__" : Str)) = false := by decide) (he : starEach (e :: es) X.env = (false, eval e X.env) :: starEach es X.env := by rfl) (hpl : (backTo pos (starEach es X.env)).any (·.1) = false := by rfl) :
    SE X W (.Call (.Name x p) (e :: es) [] pos) (tCall (spOf X.K spec) [] E0 la) (wCall spec ws) := by
  obtain ⟨pa, s⟩ := ha
  refine ⟨pe_call G hr hg hm hk hb .nil pass0 pa hdb he hpl, fun E F H σ a Q q qe R hw l lx => ?_⟩
  refine s E F H σ a _ _ qe R hw (fun vs rs F1 H1 a1 e1 R1 rps hn hq => ?_) lx
  obtain ⟨as, hav, hq⟩ := onO_iff.mp hq
  obtain ⟨hs, hsp⟩ : sep a1 rs = true ∧ spec as (fun r as' => q (resOf r) (putBack a1 rs as')) (fun _ _ => False) := by
    cases e : sep a1 rs with
    | true => exact ⟨rfl, callS_d (br_tt hq e)⟩
    | false => exact (br_ff hq e).elim
  rw [List.append_nil]
  refine ⟨F1, as, _, _, args_ok R1 rps hs hav, hsp, fun r as' h v F' H' P ro => ?_, fun x as' h => h.elim⟩
  have R' := rel_back R1 rps hs hav P
  refine l v (resOf r) F' H' _ (e1.trans P.f) R' (ret_back R1 P ro fun b ⟨i, av, h1, h2, h3⟩ => ?_) h
  obtain ⟨c, e⟩ := putBack_flag rs a1 as' i av h1
  exact R1.owned_h ⟨i, _, e, h2, h3⟩
theorem se_call0 (G : FnOk X.prog X.w X.K X.mg X.base CX0 k fa fd ps (spOf X.K spec)) (hr : Room k X.A) (hg : Gl X x) (hm : X.mg x = some (.ref fa)) (hk : PySem.W.keepIn X.K (.ref fa) = true) (hb : Binds X.K fd ps [])
    (hdb : (x == ("__debug__" : Str)) = false := by decide) : SE X W (.Call (.Name x p) [] [] pos) (tCall (spOf X.K spec) [] E0 tNil) (wCall spec waNil) := by
  refine ⟨pe_call0 G hr hg hm hk hb .nil pass0 hdb, fun E F H σ a Q q qe R hw l lx => ?_⟩
  have hw : onO (avsOf a []) fun as => br (sep a []) (callS spec as fun r as' => q (resOf r) (putBack a [] as')) False := hw
  obtain ⟨as, hav, hq⟩ := onO_iff.mp hw
  obtain ⟨hs, hsp⟩ : sep a [] = true ∧ spec as (fun r as' => q (resOf r) (putBack a [] as')) (fun _ _ => False) := ⟨rfl, callS_d (br_tt hq rfl)⟩
  refine ⟨F, as, _, _, args_ok R (.nil : RepRs X.K E F H σ a [] []) hs hav, hsp, fun r as' h v F' H' P ro => ?_, fun x as' h => h.elim⟩
  have R' := rel_back R (.nil : RepRs X.K E F H σ a [] []) hs hav P
  refine l v (resOf r) F' H' _ P.f R' (ret_back R P ro fun b ⟨i, av, h1, h2, h3⟩ => ?_) h
  obtain ⟨c, e⟩ := putBack_flag [] a as' i av h1
  exact R.owned_h ⟨i, _, e, h2, h3⟩
end

/-! ### statements -/
structure EndsA where
  nx : PSt → Prop
  rt : AV → PSt → Prop
  bk : PSt → Prop
  ct : PSt → Prop
  ex : Exc → PSt → Prop
abbrev WS := EndsA → PSt → Prop
def RetR (K : PySem.W.Frag) (E : En) (F H : Hp) (v : V) (r : AV) : Prop := match r.o with
  | .no => Rep K F v r.c
  | _ => ∃ p, v = .ref p ∧ F p = none ∧ E.H p = none ∧ TopAt K F H p r.c
structure Lk (K : PySem.W.Frag) (E : En) (F : Hp) (D : Ends) (DA : EndsA) (W : L2.St → XK) : Prop where
  nx : ∀ σ F' H a, Same F F' → Rel K E F' H σ a → DA.nx a → D.nx σ H
  bk : ∀ σ F' H a, Same F F' → Rel K E F' H σ a → DA.bk a → D.bk σ H
  ct : ∀ σ F' H a, Same F F' → Rel K E F' H σ a → DA.ct a → D.ct σ H
  rt : ∀ σ F' H a v r, Same F F' → Rel K E F' H σ a → RetR K E F' H v r → DA.rt r a → D.rt v H
  ex : ∀ σ, Lx K E F σ DA.ex (W σ)
theorem Lk.to {K : PySem.W.Frag} {E : En} {F F' : Hp} {D : Ends} {DA : EndsA} {W : L2.St → XK} (l : Lk K E F D DA W) (e : Same F F') : Lk K E F' D DA W :=
  ⟨fun σ F2 H a e2 => l.nx σ F2 H a (e.trans e2), fun σ F2 H a e2 => l.bk σ F2 H a (e.trans e2), fun σ F2 H a e2 => l.ct σ F2 H a (e.trans e2), fun σ F2 H a v r e2 => l.rt σ F2 H a v r (e.trans e2), fun σ => (l.ex σ).to e⟩
def SS (X : Cx) (W : L2.St → XK) (st : Stmt) (t : TS) (w : WS) : Prop := PS X st t ∧ ∀ E F H σ a D DA, Rel X.K E F H σ a → w DA a → Lk X.K E F D DA W → t D σ H
def SSs (X : Cx) (W : L2.St → XK) (st : List Stmt) (t : TS) (w : WS) : Prop := PSs X st t ∧ ∀ E F H σ a D DA, Rel X.K E F H σ a → w DA a → Lk X.K E F D DA W → t D σ H
section
variable {X : Cx} {W : L2.St → XK} {st : Stmt} {rest : List Stmt} {t u : TS} {w1 w2 : WS} {e a b c : Expr} {pos : Pos} {ta tb : TE} {ua : TT} {w wk : WE} {wt : WT}
def wNext : WS := fun D a => D.nx a
def wSeq (w1 w2 : WS) : WS := fun D a => w1 { D with nx := w2 D } a
theorem sss_nil : SSs X W [] tNext wNext := ⟨pss_nil, fun E F H σ a D DA R h l => l.nx σ F H a (Same.refl F) R h⟩
theorem sss_cons (h1 : SS X W st t w1) (h2 : SSs X W rest u w2) : SSs X W (st :: rest) (tSeq t u) (wSeq w1 w2) := by
  refine ⟨pss_cons h1.1 h2.1, fun E F H σ a D DA R h l => h1.2 E F H σ a _ _ R h ⟨fun σ' F' H' a' e R' q => ?_, l.bk, l.ct, l.rt, l.ex⟩⟩
  exact h2.2 E F' H' σ' a' D DA R' q (l.to e)
theorem sss_one (h1 : SS X W st t w1) : SSs X W [st] t w1 := ⟨pss_one h1.1, h1.2⟩
theorem ss_pass : SS X W (.Pass pos) tNext wNext := ⟨ps_pass, fun E F H σ a D DA R h l => l.nx σ F H a (Same.refl F) R h⟩
def wBrk : WS := fun D a => D.bk a
def wCnt : WS := fun D a => D.ct a
theorem ss_break : SS X W (.Break pos) tBreak wBrk := ⟨ps_break, fun E F H σ a D DA R h l => l.bk σ F H a (Same.refl F) R h⟩
theorem ss_continue : SS X W (.Continue pos) tCont wCnt := ⟨ps_continue, fun E F H σ a D DA R h l => l.ct σ F H a (Same.refl F) R h⟩
theorem ss_doc {x j pos pos'} : SS X W (.Expr (.Constant (.str x) j pos) pos') tNext wNext := ⟨ps_doc, fun E F H σ a D DA R h l => l.nx σ F H a (Same.refl F) R h⟩
def wDrop (w : WE) : WS := fun D a => w a (fun _ a1 => D.nx a1) D.ex
theorem ss_expr (h : SE X W e ta w) (hs : swapsWith e none pos.line X.env = pure false := by rfl) : SS X W (.Expr e pos) (tDrop ta) (wDrop w) :=
  ⟨ps_expr h.1 hs, fun E F H σ a D DA R hw l => h.2 E F H σ a _ _ _ R hw (fun v r F' H' a' e R' rp q => l.nx σ F' H' a' e R' q) (l.ex σ)⟩
def retR (r : Res) (a : PSt) (k : AV → PSt → Prop) : Prop := match r with
  | .dat d => k ⟨.no, d⟩ a
  | .new d => k ⟨.own, d⟩ a
  | .slot i => match a[i]? with
    | some (some ⟨.no, c⟩) => k ⟨.no, c⟩ a
    | some (some ⟨.own, c⟩) => k ⟨.own, c⟩ a
    | _ => False
def wRet (w : WE) : WS := fun D a => w a (fun r a1 => retR r a1 D.rt) D.ex
theorem retR_ok {K : PySem.W.Frag} {E : En} {F H : Hp} {σ : L2.St} {a : PSt} {v : V} {r : Res} {k : AV → PSt → Prop} (R : Rel K E F H σ a) (h : RepR K E F H σ a v r) (c : retR r a k) : ∃ av, RetR K E F H v av ∧ k av a := by
  cases r with
  | dat d => exact ⟨⟨.no, d⟩, h, c⟩
  | new d => obtain ⟨p, e, h1, h2, h3, _⟩ := h; exact ⟨⟨.own, d⟩, ⟨p, e, h1, h2, h3⟩, c⟩
  | slot i =>
    have hv : σ[i]? = some (some v) := h
    simp only [retR] at c
    split at c
    · rename_i x e
      obtain ⟨u, e1, q⟩ := R.sl i _ e
      rw [hv] at e1
      cases e1
      exact ⟨⟨.no, x⟩, q, c⟩
    · rename_i x e
      obtain ⟨u, e1, q⟩ := R.sl i _ e
      rw [hv] at e1
      cases e1
      exact ⟨⟨.own, x⟩, q, c⟩
    · exact c.elim
theorem ss_ret (h : SE X W e ta w) : SS X W (.Return (some e) pos) (tRet ta) (wRet w) := by
  refine ⟨ps_ret h.1, fun E F H σ a D DA R hw l => h.2 E F H σ a _ _ _ R hw (fun v r F' H' a' e R' rp q => ?_) (l.ex σ)⟩
  obtain ⟨av, h1, h2⟩ := retR_ok R' rp q
  exact l.rt σ F' H' a' v av e R' h1 h2
def wRetN : WS := fun D a => D.rt ⟨.no, .non⟩ a
theorem ss_retN : SS X W (.Return none pos) tRetN wRetN := ⟨ps_retN, fun E F H σ a D DA R hw l => l.rt σ F H a .non ⟨.no, .non⟩ (Same.refl F) R (Rep.non) hw⟩
def wIf (wt : WT) (w1 w2 : WS) : WS := fun D a => wt a (fun b a1 => br b (w1 D a1) (w2 D a1)) D.ex
theorem ss_if {s1 s2 : List Stmt} (h : ST X W c ua wt) (h1 : SSs X W s1 t w1) (h2 : SSs X W s2 u w2) : SS X W (.If c s1 s2 pos) (tIfS ua t u) (wIf wt w1 w2) := by
  refine ⟨ps_if h.1 h1.1 h2.1, fun E F H σ a D DA R hw l => h.2 E F H σ a _ _ _ R hw (fun k F' H' a' e R' q => ?_) (l.ex σ)⟩
  cases k with
  | true => exact h1.2 E F' H' σ a' D DA R' (br_tt q rfl) (l.to e)
  | false => exact h2.2 E F' H' σ a' D DA R' (br_ff q rfl) (l.to e)
/-- what a name gets -/
def sto (i : Nat) (r : Res) (a : PSt) (k : PSt → Prop) : Prop := match r with
  | .dat d => k (a.set i (some ⟨.no, d⟩))
  | .new d => k (a.set i (some ⟨.own, d⟩))
  | .slot j => fz (.slot j) a fun d a1 => k (a1.set i (some ⟨.no, d⟩))
theorem sto_ok {K : PySem.W.Frag} {E : En} {F H : Hp} {σ : L2.St} {a : PSt} {v : V} {r : Res} {i : Nat} {k : PSt → Prop} (R : Rel K E F H σ a) (h : RepR K E F H σ a v r) (c : sto i r a k) :
    ∃ F' a', Same F F' ∧ Rel K E F' H (σ.set i (some v)) a' ∧ k a' := by
  cases r with
  | dat d => exact ⟨F, _, Same.refl F, R.setDat h, c⟩
  | new d =>
    obtain ⟨p, rfl, h1, h2, h3, h4⟩ := h
    exact ⟨F, _, Same.refl F, R.setNew h1 h2 h3 h4, c⟩
  | slot j =>
    have c' : fz (.slot j) a (fun d a1 => k (a1.set i (some ⟨.no, d⟩))) := c
    obtain ⟨F2, a2, d, s, R2, rp, hk⟩ := fz_ok R h c'
    exact ⟨F2, _, s, R2.setDat rp, hk⟩
def wSet (i : Nat) (w : WE) : WS := fun D a => w a (fun r a1 => sto i r a1 D.nx) D.ex
theorem ss_set {i : Nat} {x : Str} {pos' : Pos} (hN : X.N.Nodup) (hi : X.N[i]? = some x) (hx : Loc X.env.scope x) (h : SE X W e ta w) (hs : swapsWith e (some (.Name x pos')) pos.line X.env = pure false := by rfl) (hf : X.fn x = true ∨ X.env.scope.names.lookup x = some .local := by first | exact .inl rfl | exact .inr rfl | assumption) :
    SS X W (.Assign [.Name x pos'] e pos) (tAsg ta (gName i)) (wSet i w) := by
  refine ⟨ps_set hN hi hx h.1 hs hf, fun E F H σ a D DA R hw l => h.2 E F H σ a _ _ _ R hw (fun v r F' H' a' e R' rp q => ?_) (l.ex σ)⟩
  obtain ⟨F2, a2, s, R2, hk⟩ := sto_ok R' rp q
  exact l.nx _ F2 H' a2 (e.trans s) R2 hk
/-- targets -/
abbrev WG := D → PSt → (PSt → Prop) → Prop
abbrev WGs := List D → PSt → (PSt → Prop) → Prop
def Only (sl : List Nat) (σ σ' : L2.St) : Prop := σ'.length = σ.length ∧ ∀ j, j ∉ sl → σ'[j]? = σ[j]?
def SG (X : Cx) (tg : Expr) (g : TG) (wg : WG) (sl : List Nat) : Prop := PG X tg g ∧ ∀ E F H σ a v d Q q, Rel X.K E F H σ a → Rep X.K F v d → wg d a q → (∀ σ' a', Only sl σ σ' → Rel X.K E F H σ' a' → q a' → Q σ' H) → g v σ H Q
def SGs (X : Cx) (tg : List Expr) (g : TGs) (wg : WGs) (sl : List Nat) : Prop := PGs X tg g ∧ ∀ E F H σ a vs ds Q q, Rel X.K E F H σ a → Reps X.K F vs ds → wg ds a q → (∀ σ' a', Only sl σ σ' → Rel X.K E F H σ' a' → q a' → Q σ' H) → g vs σ H Q
theorem Only.refl (sl : List Nat) (σ : L2.St) : Only sl σ σ := ⟨rfl, fun _ _ => rfl⟩
theorem Only.trans {s1 s2 : List Nat} {σ σ1 σ2 : L2.St} (a : Only s1 σ σ1) (b : Only s2 σ1 σ2) : Only (s1 ++ s2) σ σ2 :=
  ⟨b.1.trans a.1, fun j h => (b.2 j fun z => h (List.mem_append_right _ z)).trans (a.2 j fun z => h (List.mem_append_left _ z))⟩
def wgName (i : Nat) : WG := fun d a q => q (a.set i (some ⟨.no, d⟩))
theorem sg_name {i : Nat} {x : Str} (hN : X.N.Nodup) (hi : X.N[i]? = some x) (hx : Loc X.env.scope x) (hf : X.fn x = true ∨ X.env.scope.names.lookup x = some .local := by first | exact .inl rfl | exact .inr rfl | assumption) : SG X (.Name x pos) (gName i) (wgName i) [i] :=
  ⟨pg_name hN hi hx hf, fun E F H σ a v d Q q R rp hw l => l _ _ ⟨List.length_set, fun j h => List.getElem?_set_ne (fun z => h (by simp [z]))⟩ (R.setDat rp) hw⟩
def wgNil : WGs := fun ds a q => match ds with
  | [] => q a
  | _ => False
def wgCons (g : WG) (gs : WGs) : WGs := fun ds a q => match ds with
  | d :: r => g d a fun a1 => gs r a1 q
  | [] => False
theorem sgs_nil : SGs X [] gNil wgNil [] := ⟨pgs_nil, fun E F H σ a vs ds Q q R rp hw l => by
  cases rp with
  | nil => exact ⟨rfl, l σ a (Only.refl _ _) R hw⟩
  | cons => exact hw.elim⟩
theorem sgs_cons {es : List Expr} {g : TG} {gs : TGs} {wg : WG} {wgs : WGs} {sl sl2 : List Nat} (h1 : SG X e g wg sl) (h2 : SGs X es gs wgs sl2) (hs : (assignEach (e :: es) X.env).map (·.2) = assign e X.env :: (assignEach es X.env).map (·.2) := by rfl) : SGs X (e :: es) (gCons g gs) (wgCons wg wgs) (sl ++ sl2) :=
  ⟨pgs_cons h1.1 h2.1 hs, fun E F H σ a vs ds Q q R rp hw l => by
    cases rp with
    | nil => exact hw.elim
    | cons r1 r2 => exact ⟨_, _, rfl, h1.2 E F H σ a _ _ _ _ R r1 hw fun σ' a' o1 R' hq => h2.2 E F H σ' a' _ _ _ _ R' r2 hq fun σ2 a2 o2 => l σ2 a2 (o1.trans o2)⟩⟩
def tupOf : D → Option (List D)
  | .tup xs => some xs
  | .rot xs => some xs
  | _ => none
def wgTup (n : Nat) (gs : WGs) : WG := fun d a q => onO (tupOf d) fun ds => ds.length = n ∧ gs ds a q
theorem sg_tup {es : List Expr} {k n : Nat} {gs : TGs} {wgs : WGs} {sl : List Nat} (hc : X.calm = true) (h : SGs X es gs wgs sl) (hn : (assignEach es X.env).length = n := by rfl) (hst : (assignEach es X.env).findIdx? (·.1) = none := by rfl) : SG X (.Tuple es k pos) (gTup X.K n gs) (wgTup n wgs) sl :=
  ⟨pg_tup hc h.1 hn hst, fun E F H σ a v d Q q R rp hw l => by
    obtain ⟨ds, hd, hl, hw1⟩ := onO_iff.mp (show onO (tupOf d) (fun ds => ds.length = n ∧ wgs ds a q) from hw)
    cases d with
    | tup xs => cases hd; cases rp with | tup hf r => exact ⟨_, _, rfl, .of (R.ext _ _ hf), by rw [r.length]; exact hl, h.2 E F H σ a _ _ Q q R r hw1 l⟩
    | rot xs => cases hd; cases rp with | rot hf r => exact ⟨_, _, rfl, same_seqT R.ext hf, by rw [r.length]; exact hl, h.2 E F H σ a _ _ Q q R r hw1 l⟩
    | _ => cases hd⟩
def wAsg (w : WE) (wg : WG) : WS := fun D a => w a (fun r a1 => fz r a1 fun d a2 => wg d a2 D.nx) D.ex
theorem ss_asg {tg : Expr} {g : TG} {wg : WG} {sl : List Nat} (h : SE X W e ta w) (hg : SG X tg g wg sl) (hs : swapsWithSole [tg] e pos.line X.env = pure false := by rfl) (hw : swappedStores [tg] e X.env = pure none := by rfl)
    (h1 : (assignEach [tg] X.env).map (·.2) = [assign tg X.env] := by rfl) : SS X W (.Assign [tg] e pos) (tAsg ta g) (wAsg w wg) := by
  refine ⟨ps_asg h.1 hg.1 hs hw h1, fun E F H σ a D DA R hw l => h.2 E F H σ a _ _ _ R hw (fun v r F' H' a' e R' rp q => ?_) (l.ex σ)⟩
  obtain ⟨F2, a2, d, s, R2, rp2, hk⟩ := fz_ok R' rp q
  exact hg.2 E F2 H' σ a2 v d _ _ R2 rp2 hk fun σ' a3 _ R3 hq => l.nx _ F2 H' a3 (e.trans s) R3 hq
/-- x op= e -/
def wAug (i : Nat) (op : DOp) (w : WE) : WS := fun D a => onS a[i]? fun _ => w a (fun r a1 => onO (con a1 (.slot i)) fun x => onO (con a1 r) fun y => op x y fun r2 => sto i r2 a1 D.nx) D.ex
theorem ss_aug {i : Nat} {x : Str} {o : Operator} {r : R2} {op : DOp} {pos' : Pos} (hN : X.N.Nodup) (hi : X.N[i]? = some x) (hx : Loc X.env.scope x) (h : SE X W e ta w) (ho : OpR X (inplaceOp o) r) (hs : OpS X.K r op) (hf : X.fn x = true ∨ X.env.scope.names.lookup x = some .local := by first | exact .inl rfl | exact .inr rfl | assumption) :
    SS X W (.AugAssign (.Name x pos') o e pos) (tAug i ta r) (wAug i op w) := by
  refine ⟨ps_aug hN hi hx h.1 ho hf, fun E F H σ a D DA R hw l => ?_⟩
  obtain ⟨av, ha, hw⟩ := onS_iff.mp hw
  obtain ⟨v, hv, _⟩ := R.sl i av ha
  refine ⟨v, hv, h.2 E F H σ a _ _ _ R hw (fun u r F' H' a' e R' rp q => ?_) (l.ex σ)⟩
  obtain ⟨x, c1, q⟩ := onO_iff.mp q
  obtain ⟨y, c2, hop⟩ := onO_iff.mp q
  have rv : RepR X.K E F' H' σ a' v (.slot i) := hv
  refine hs E F' H' σ a' v u x y _ _ R' (rd_of R' rv c1) (rd_of R' rp c2) hop fun z r2 F2 H2 s2 R2 rp2 hq => ?_
  obtain ⟨F3, a3, s3, R3, hk⟩ := sto_ok R2 rp2 hq
  exact l.nx _ F3 H2 a3 ((e.trans s2).trans s3) R3 hk
theorem ip_addA : OpR X (inplaceOp .Add) (fun x y H Q => rI0 (fun i j => .int (i + j)) x y H Q ∨ rAddS x y H Q) := iop_add.or iop_add_str
def dIAdd : DOp := fun x y k => match x, y with
  | .int i, .int j => k (.dat (.int (i + j)))
  | .str i, .str j => i.length + j.length ≤ sizeLine ∧ k (.dat (.str (i ++ j)))
  | _, _ => False
theorem dIAdd_ok {K : PySem.W.Frag} : OpS K (fun x y H Q => rI0 (fun i j => .int (i + j)) x y H Q ∨ rAddS x y H Q) dIAdd := by
  intro E F H σ a v1 v2 x y Q k R h1 h2 ho l
  unfold dIAdd at ho
  split at ho
  · exact .inl ⟨_, _, h1.int, h2.int, l _ (.dat _) F H (Same.refl F) R (Rep.int _) ho⟩
  · exact .inr ⟨_, _, h1.str, h2.str, ho.1, l _ (.dat _) F H (Same.refl F) R (Rep.str _) ho.2⟩
  · exact ho.elim
def dIMul : DOp := fun x y k => match x, y with | .int i, .int j => CMul i j ∧ k (.dat (.int (i * j))) | _, _ => False
theorem dIMul_ok {K : PySem.W.Frag} : OpS K (rI CMul fun i j => .int (i * j)) dIMul := OpS.int

/-! ### lists that a slot owns -/
/-- x.append(e) -/
def wApp (i : Nat) (w : WE) : WS := fun D a => onOwn a[i]? fun _ _ => w a (fun r a1 => fz r a1 fun d a2 => onOwn a2[i]? fun o xs => xs.length < sizeLine ∧ D.nx (a2.set i (some ⟨o, .lst (xs ++ [d])⟩))) D.ex
theorem slot_list {K : PySem.W.Frag} {E : En} {F H : Hp} {σ : L2.St} {a : PSt} (R : Rel K E F H σ a) {i : Nat} {o : Ow} {xs : List D} (h : a[i]? = some (some ⟨o, .lst xs⟩)) : ∃ p vs, σ[i]? = some (some (.ref p)) ∧ H p = some (.lst vs) ∧ Reps K F vs xs := by
  obtain ⟨v, e, q⟩ := R.sl i _ h
  have rv : RepR K E F H σ a v (.slot i) := e
  obtain ⟨p, vs, rfl, hp, r⟩ := (rd_of R rv (d := .lst xs) (by simp [con, h])).lst R.ext
  exact ⟨p, vs, e, hp, r⟩
theorem ss_append {i : Nat} {o : Expr} {apos cpos : Pos} (ho : PE X o (tVar i)) (h : SE X W e ta w) (hbase : attributeBase o "append" X.env (eval o X.env) = eval o X.env := by rfl)
    (hfew : ((backTo cpos (starEach [e] X.env)).all (fun x => !x.1) && (backToKw cpos (keywordEach [] X.env)).all (fun x => x.1.isSome) && decide (([e] : List Expr).length + ([] : List Keyword).length + (if ([] : List Keyword).isEmpty then 0 else 1) < 30)) = true := by rfl)
    (hline : (apos.endLine == cpos.line) = true := by rfl) (hst : starEach [e] X.env = (false, eval e X.env) :: starEach [] X.env := by rfl) (hplain : (backTo cpos (starEach [] X.env)).any (·.1) = false := by rfl)
    (hs : swapsWith (.Call (.Attribute o "append" apos) [e] [] cpos) none pos.line X.env = pure false := by rfl) :
    SS X W (.Expr (.Call (.Attribute o "append" apos) [e] [] cpos) pos) (tDrop (tBM X.K "list" rAppend (tVar i) (tCons ta tNil))) (wApp i w) := by
  refine ⟨ps_expr (pe_bm PySem.F.plainAttrs_list PySem.F.slot_list_append PySem.F.type_list_append mt_append ho (pa_cons h.1 pa_nil hst) hbase hfew hline hst hplain) hs, fun E F H σ a D DA R hw l => ?_⟩
  obtain ⟨o, xs, ha, _, hw⟩ := onOwn_iff.mp hw
  obtain ⟨p, vs, hv, hp, _⟩ := slot_list R ha
  refine ⟨.ref p, hv, .inl ⟨rfl, vs, .of hp⟩, h.2 E F H σ a _ _ _ R hw (fun u r F' H' a' e R' rp q => ?_) (l.ex σ)⟩
  obtain ⟨F2, a2, d, s, R2, rp2, q2⟩ := fz_ok R' rp q
  obtain ⟨o', ys, h2, ho', hz, hk⟩ := onOwn_iff.mp q2
  obtain ⟨p', ws, hv', hp', r'⟩ := slot_list R2 h2
  rw [hv] at hv'
  cases hv'
  refine ⟨p, ws, u, rfl, rfl, hp', by rw [r'.length]; exact hz, ?_⟩
  exact l.nx _ F2 _ _ (e.trans s) (R2.write h2 ho' hv (.lst (r'.append (.cons rp2 .nil)))) hk
/-- x.extend(e) -/
def wExt (i : Nat) (w : WE) : WS := fun D a => onOwn a[i]? fun _ _ => w a (fun r a1 => onLst (con a1 r) fun ys => onOwn a1[i]? fun o xs => xs.length + ys.length ≤ sizeLine ∧ D.nx (a1.set i (some ⟨o, .lst (xs ++ ys)⟩))) D.ex
theorem ss_extend {i : Nat} {o : Expr} {apos cpos : Pos} (ho : PE X o (tVar i)) (h : SE X W e ta w) (hbase : attributeBase o "extend" X.env (eval o X.env) = eval o X.env := by rfl)
    (hfew : ((backTo cpos (starEach [e] X.env)).all (fun x => !x.1) && (backToKw cpos (keywordEach [] X.env)).all (fun x => x.1.isSome) && decide (([e] : List Expr).length + ([] : List Keyword).length + (if ([] : List Keyword).isEmpty then 0 else 1) < 30)) = true := by rfl)
    (hline : (apos.endLine == cpos.line) = true := by rfl) (hst : starEach [e] X.env = (false, eval e X.env) :: starEach [] X.env := by rfl) (hplain : (backTo cpos (starEach [] X.env)).any (·.1) = false := by rfl)
    (hs : swapsWith (.Call (.Attribute o "extend" apos) [e] [] cpos) none pos.line X.env = pure false := by rfl) :
    SS X W (.Expr (.Call (.Attribute o "extend" apos) [e] [] cpos) pos) (tDrop (tBM X.K "list" rExtend (tVar i) (tCons ta tNil))) (wExt i w) := by
  refine ⟨ps_expr (pe_bm PySem.F.plainAttrs_list PySem.F.slot_list_extend PySem.F.type_list_extend mt_extend ho (pa_cons h.1 pa_nil hst) hbase hfew hline hst hplain) hs, fun E F H σ a D DA R hw l => ?_⟩
  obtain ⟨o, xs, ha, _, hw⟩ := onOwn_iff.mp hw
  obtain ⟨p, vs, hv, hp, _⟩ := slot_list R ha
  refine ⟨.ref p, hv, .inl ⟨rfl, vs, .of hp⟩, h.2 E F H σ a _ _ _ R hw (fun u r F' H' a' e R' rp q => ?_) (l.ex σ)⟩
  obtain ⟨ys, c, q⟩ := onLst_iff.mp q
  obtain ⟨o', zs, h2, ho', hz, hk⟩ := onOwn_iff.mp q
  obtain ⟨b, us, rfl, hb, rb⟩ := (rd_of R' rp c).lst R'.ext
  obtain ⟨p', ws, hv', hp', r'⟩ := slot_list R' h2
  rw [hv] at hv'
  cases hv'
  refine ⟨p, b, ws, us, rfl, rfl, hp', hb, by rw [r'.length, rb.length]; exact hz, ?_⟩
  exact l.nx _ F' _ _ e (R'.write h2 ho' hv (.lst (r'.append rb))) hk
/-- x[k] = e -/
def wSetIx (i : Nat) (wk w : WE) : WS := fun D a => w a (fun r a1 => fz r a1 fun d a2 => onS a2[i]? fun _ => wk a2 (fun rk a3 => onI (con a3 rk) fun j => onOwn a3[i]? fun o xs => onO (ixN xs.length j) fun n => D.nx (a3.set i (some ⟨o, .lst (xs.set n d)⟩))) D.ex) D.ex
theorem ss_setIx {i : Nat} {o : Expr} {p2 : Pos} (ho : PE X o (tVar i)) (hk : SE X W b tb wk) (h : SE X W e ta w) (hs : swapsWithSole [.Subscript o b p2] e pos.line X.env = pure false := by rfl) (hw : swappedStores [.Subscript o b p2] e X.env = pure none := by rfl)
    (h1 : (assignEach [.Subscript o b p2] X.env).map (·.2) = [assign (.Subscript o b p2) X.env] := by rfl)
    (hsub : ∀ v, assign (.Subscript o b p2) X.env v = (do let ov ← holding [v] (eval o X.env); let iv ← holding [v, ov] (eval b X.env); standAt p2; holding [v, ov, iv] (setItem ov iv v); release [v, ov, iv] []) := by intro _; rfl) :
    SS X W (.Assign [.Subscript o b p2] e pos) (tAsg ta (gSub (tVar i) tb rSetL)) (wSetIx i wk w) := by
  refine ⟨ps_asg h.1 (pg_sub ho hk.1 set_list hsub) hs hw h1, fun E F H σ a D DA R hw l => h.2 E F H σ a _ _ _ R hw (fun v r F' H' a' e R' rp q => ?_) (l.ex σ)⟩
  obtain ⟨F2, a2, d, s, R2, rp2, hq⟩ := fz_ok R' rp q
  obtain ⟨av, ha, hq⟩ := onS_iff.mp hq
  obtain ⟨vo, hv, _⟩ := R2.sl i av ha
  refine ⟨vo, hv, hk.2 E F2 H' σ a2 _ _ _ R2 hq (fun u rk F3 H3 a3 e3 R3 rp3 hq3 => ?_) ((l.ex σ).to (e.trans s))⟩
  obtain ⟨j, c, hq3⟩ := onI_iff.mp hq3
  obtain ⟨o, xs, h3, ho3, hq3⟩ := onOwn_iff.mp hq3
  obtain ⟨n, hn, hnx⟩ := onO_iff.mp hq3
  obtain rfl := (rd_of R3 rp3 c).int
  obtain ⟨p, ws, hv', hp', r'⟩ := slot_list R3 h3
  rw [hv] at hv'
  cases hv'
  refine ⟨p, ws, j, n, rfl, rfl, hp', by rw [r'.length]; exact hn, ?_⟩
  exact l.nx _ F3 _ _ ((e.trans s).trans e3) (R3.write h3 ho3 hv (.lst (Reps.set (rp2.mono e3) n r'))) hnx
/-- a list's item, by values, for x[k] op= e -/
theorem get_list : PGet X (rIxL X.K) := by
  intro pins s σ H o i ov iv Q I ro ri h
  obtain ⟨p, xs, k, z, rfl, rfl, hq, he, q⟩ := h
  cases ro
  obtain ⟨t, rfl⟩ := ri
  obtain ⟨its, r, pl, hz⟩ := I.list hq
  obtain ⟨j, h1, h2, h3, h4, h5⟩ := atI_get he
  obtain ⟨w, ew, rw'⟩ := r.get h2
  have hl := r.length
  have hn := line63
  have fin : EP X pins σ Q w s := ⟨z, H, I, rw', q⟩
  by_cases h0 : 0 ≤ k
  · have hj : k.toNat = j := by
      rw [seqIndex_of h0 h5] at h1
      exact Option.some.inj h1
    exact wpAny_getItem_list pl.isList h0 (by omega) (by rw [hj]; simpa using ew) fin
  · have hj : (k + (its.toArray.size : Int)).toNat = j := by
      rw [seqIndex_neg (by omega) h4] at h1
      rw [List.size_toArray, ← hl]
      exact Option.some.inj h1
    exact wpAny_getItem_list_neg pl.isList (by omega) (by rw [List.size_toArray] <;> omega) (by omega) (by rw [hj]; simpa using ew) fin
/-- x[k] op= e, of ints -/
def wAugIx (i : Nat) (g : Int → Int → Int) (wk w : WE) : WS := fun D a => onS a[i]? fun _ => wk a (fun rk a1 => onI (con a1 rk) fun j => onLst (con a1 (.slot i)) fun xs => onO (ixN xs.length j) fun n => onI xs[n]? fun y =>
  w a1 (fun r a2 => onI (con a2 r) fun z => onOwn a2[i]? fun o' xs' => onO (ixN xs'.length j) fun n' => D.nx (a2.set i (some ⟨o', .lst (xs'.set n' (.int (g y z)))⟩))) D.ex) D.ex
theorem slot_list' {K : PySem.W.Frag} {E : En} {F H : Hp} {σ : L2.St} {a : PSt} (R : Rel K E F H σ a) {i : Nat} {xs : List D} (h : con a (.slot i) = some (.lst xs)) : ∃ p vs, σ[i]? = some (some (.ref p)) ∧ H p = some (.lst vs) ∧ Reps K F vs xs := by
  simp only [con] at h
  split at h
  · rename_i av e
    obtain ⟨o, c⟩ := av
    cases h
    exact slot_list R e
  · cases h
theorem ss_augIx {i : Nat} {o : Expr} {p2 : Pos} {op : Operator} {g : Int → Int → Int} (ho : PE X o (tVar i)) (hk : SE X W b tb wk) (h : SE X W e ta w) (hop : OpR X (inplaceOp op) (rI0 fun i j => .int (g i j)))
    (ha : ∀ ov iv new, augStore b ov iv new = (do holding [new, ov, iv] (setItem ov iv new); release [new, ov, iv] []; pure .next) := by intros; rfl) :
    SS X W (.AugAssign (.Subscript o b p2) op e pos) (tAugS (tVar i) tb ta (rIxL X.K) (rI0 fun i j => .int (g i j)) rSetL) (wAugIx i g wk w) := by
  refine ⟨ps_augS ho hk.1 get_list h.1 hop set_list ha, fun E F H σ a D DA R hw l => ?_⟩
  obtain ⟨av, hav, hw⟩ := onS_iff.mp hw
  obtain ⟨vo, hv, _⟩ := R.sl i av hav
  refine ⟨vo, hv, hk.2 E F H σ a _ _ _ R hw (fun u rk F1 H1 a1 e1 R1 rp1 q1 => ?_) (l.ex σ)⟩
  obtain ⟨j, c, q1⟩ := onI_iff.mp q1
  obtain ⟨xs, h1, q1⟩ := onLst_iff.mp q1
  obtain ⟨n, hn, q1⟩ := onO_iff.mp q1
  obtain ⟨y, hy, hq⟩ := onI_iff.mp q1
  obtain rfl := (rd_of R1 rp1 c).int
  obtain ⟨p, ws, hv', hp', r'⟩ := slot_list' R1 h1
  rw [hv] at hv'
  cases hv'
  obtain ⟨vy, hvy, ry⟩ := r'.get' hy
  cases ry
  refine ⟨p, ws, j, .int y, rfl, rfl, .of hp', by unfold atI; rw [r'.length, hn]; exact hvy, ?_⟩
  refine h.2 E F1 H1 σ a1 _ _ _ R1 hq (fun u2 r2 F2 H2 a2 e2 R2 rp2 q2 => ?_) ((l.ex σ).to e1)
  obtain ⟨z, c2, q2⟩ := onI_iff.mp q2
  obtain ⟨o', xs', h2, ho', q2⟩ := onOwn_iff.mp q2
  obtain ⟨n', hn', hnx⟩ := onO_iff.mp q2
  obtain rfl := (rd_of R2 rp2 c2).int
  obtain ⟨p', ws', hv', hp', r'⟩ := slot_list R2 h2
  rw [hv] at hv'
  cases hv'
  refine ⟨y, z, rfl, rfl, p, ws', j, n', rfl, rfl, hp', by rw [r'.length]; exact hn', ?_⟩
  exact l.nx _ F2 _ _ (e1.trans e2) (R2.write h2 ho' hv (.lst (Reps.set (.int _) n' r'))) hnx
end
end DS

namespace DS
open PySem PySem.Spec PyProof.Rows L2

/-! ### what a loop walks -/
abbrev WI := PSt → (List D → PSt → Prop) → (Exc → PSt → Prop) → Prop
structure ItR (K : PySem.W.Frag) (F1 : Hp) (J : It) (items : List D) : Prop where
  go : ∀ i E σ a F H, Same F1 F → Rel K E F H σ a → i < items.length → J.go i H
  stop : ∀ E σ a F H, Same F1 F → Rel K E F H σ a → J.stop items.length H
  yld : ∀ (i : Nat) E σ a F H x H', Same F1 F → Rel K E F H σ a → i < items.length → J.yld i H x H' → ∃ F' d, Same F F' ∧ Rel K E F' H' σ a ∧ items[i]? = some d ∧ Rep K F' x d
def Li (K : PySem.W.Frag) (E : En) (F : Hp) (σ : L2.St) (q : List D → PSt → Prop) (R : It → Hp → Prop) : Prop :=
  ∀ J items F' H' a', Same F F' → Rel K E F' H' σ a' → ItR K F' J items → q items a' → R J H'
def SI (X : Cx) (W : L2.St → XK) (tg iter : Expr) (t : TI) (w : WI) : Prop := PI X tg iter t ∧ ∀ E F H σ a R q qe, Rel X.K E F H σ a → w a q qe → Li X.K E F σ q R → Lx X.K E F σ qe (W σ) → t σ H R
theorem itl_ok {K : PySem.W.Frag} {F1 : Hp} {p : Addr} {vs : List V} {ds : List D} (hs : SqL K F1 p vs) (r : Reps K F1 vs ds) (inj : ∀ E σ a F H, Same F1 F → Rel K E F H σ a → True) : ItR K F1 (Itl K p) ds where
  go := fun i E σ a F H e R hi => by
    have : i < vs.length := by rw [r.length]; exact hi
    exact ⟨vs, vs[i], R.ext.seq (e.seq hs), List.getElem?_eq_getElem this⟩
  stop := fun E σ a F H e R => ⟨vs, R.ext.seq (e.seq hs), Nat.le_of_eq r.length⟩
  yld := fun i E σ a F H x H' e R hi y => by
    obtain ⟨rfl, y⟩ := y
    obtain ⟨d, h1, h2⟩ := r.get (y vs (R.ext.seq (e.seq hs)))
    exact ⟨F, d, Same.refl F, R, h1, h2.mono e⟩
theorem itt_ok {K : PySem.W.Frag} {F1 : Hp} {p : Addr} {vs : List V} {ds : List D} (hs : SqT K F1 p vs) (r : Reps K F1 vs ds) : ItR K F1 (Itt K p) ds where
  go := fun i E σ a F H e R hi => by
    have : i < vs.length := by rw [r.length]; exact hi
    exact ⟨vs, vs[i], same_seqT R.ext (same_seqT e hs), List.getElem?_eq_getElem this⟩
  stop := fun E σ a F H e R => ⟨vs, same_seqT R.ext (same_seqT e hs), Nat.le_of_eq r.length⟩
  yld := fun i E σ a F H x H' e R hi y => by
    obtain ⟨rfl, y⟩ := y
    obtain ⟨d, h1, h2⟩ := r.get (y vs (same_seqT R.ext (same_seqT e hs)))
    exact ⟨F, d, Same.refl F, R, h1, h2.mono e⟩
def rangeD (lo : Int) (n : Nat) : List D := (List.range n).map fun (i : Nat) => D.int (lo + i)
theorem rangeD_len {lo : Int} {n : Nat} : (rangeD lo n).length = n := by simp [rangeD]
theorem rangeD_get {lo : Int} {n i : Nat} {d : D} : (rangeD lo n)[i]? = some d ↔ i < n ∧ d = .int (lo + i) := by
  unfold rangeD
  rw [List.getElem?_map]
  by_cases h : i < n
  · rw [List.getElem?_range h]
    simp [h, eq_comm]
  · rw [List.getElem?_eq_none (by simpa using h)]
    simp [h]
theorem itr_ok {K : PySem.W.Frag} {F1 : Hp} {lo : Int} {n : Nat} : ItR K F1 (Itr lo n) (rangeD lo n) where
  go := fun i E σ a F H e R hi => by
    have h : i < n := by rw [rangeD_len] at hi; exact hi
    exact h
  stop := fun E σ a F H e R => by
    show n ≤ _
    rw [rangeD_len]
    exact Nat.le_refl _
  yld := fun i E σ a F H x H' e R hi y => by
    obtain ⟨rfl, rfl⟩ := y
    exact ⟨F, .int (lo + i), Same.refl F, R, rangeD_get.mpr ⟨by rw [rangeD_len] at hi; exact hi, rfl⟩, .int _⟩
section
variable {X : Cx} {W : L2.St → XK} {tg l e a b c : Expr} {pos : Pos} {ta tb tl te : TE} {la : TA} {ua tt : TT} {w : WE} {ws : WA} {wt : WT} {t tb' : TS} {wb : WS} {g : TG} {wg : WG} {sl : List Nat} {iter : Expr} {ti : TI} {wi : WI}
def listOf : D → Option (List D)
  | .lst xs => some xs
  | .rol xs => some xs
  | _ => none
def wiSeq (w : WE) : WI := fun a q qe => w a (fun r a1 => fz r a1 fun d a2 => onO (listOf d) fun xs => q xs a2) qe
theorem si_list (h : SE X W l tl w) : SI X W tg l (iList X.K tl) (wiSeq w) := by
  refine ⟨pi_list h.1, fun E F H σ a R q qe Rl hw lk lx => h.2 E F H σ a _ _ _ Rl hw (fun v r F' H' a' e R' rp hq => ?_) lx⟩
  obtain ⟨F2, a2, d, s, R2, rp2, hk⟩ := fz_ok R' rp hq
  obtain ⟨xs, hd, hk⟩ := onO_iff.mp hk
  have hd : d = .lst xs ∨ d = .rol xs := by
    cases d <;> first
      | (cases hd; exact .inl rfl)
      | (cases hd; exact .inr rfl)
      | cases hd
  rcases hd with rfl | rfl
  · cases rp2 with
    | lst hf r => exact ⟨_, rfl, ⟨_, R2.ext.seq (.of hf)⟩, lk _ xs F2 H' a2 (e.trans s) R2 (itl_ok (.of hf) r fun _ _ _ _ _ _ _ => True.intro) hk⟩
  · cases rp2 with
    | rol hf r => exact ⟨_, rfl, ⟨_, R2.ext.seq hf⟩, lk _ xs F2 H' a2 (e.trans s) R2 (itl_ok hf r fun _ _ _ _ _ _ _ => True.intro) hk⟩
def wiTup (w : WE) : WI := fun a q qe => w a (fun r a1 => fz r a1 fun d a2 => onO (tupOf d) fun xs => q xs a2) qe
theorem si_tup (h : SE X W l tl w) : SI X W tg l (iTup X.K tl) (wiTup w) := by
  refine ⟨pi_tup h.1, fun E F H σ a R q qe Rl hw lk lx => h.2 E F H σ a _ _ _ Rl hw (fun v r F' H' a' e R' rp hq => ?_) lx⟩
  obtain ⟨F2, a2, d, s, R2, rp2, hk⟩ := fz_ok R' rp hq
  obtain ⟨xs, hd, hk⟩ := onO_iff.mp hk
  cases d with
  | tup ys => cases hd; cases rp2 with | tup hf r => exact ⟨_, rfl, ⟨_, same_seqT R2.ext (.of hf)⟩, lk _ xs F2 H' a2 (e.trans s) R2 (itt_ok (.of hf) r) hk⟩
  | rot ys => cases hd; cases rp2 with | rot hf r => exact ⟨_, rfl, ⟨_, same_seqT R2.ext hf⟩, lk _ xs F2 H' a2 (e.trans s) R2 (itt_ok hf r) hk⟩
  | _ => cases hd
theorem conts1 {a1 : PSt} {rs : List Res} {j : Int} {K : PySem.W.Frag} {E : En} {F H : Hp} {σ : L2.St} {vs : List V} (R : Rel K E F H σ a1) (rps : RepRs K E F H σ a1 vs rs) (c : conts a1 rs = some [.int j]) : vs = [.int j] := by
  have := conts_rd R rps c
  cases this with
  | cons h t => cases t; rw [h.int]
theorem conts2 {a1 : PSt} {rs : List Res} {i j : Int} {K : PySem.W.Frag} {E : En} {F H : Hp} {σ : L2.St} {vs : List V} (R : Rel K E F H σ a1) (rps : RepRs K E F H σ a1 vs rs) (c : conts a1 rs = some [.int i, .int j]) : vs = [.int i, .int j] := by
  have := conts_rd R rps c
  cases this with
  | cons h t => cases t with
    | cons h' t => cases t; rw [h.int, h'.int]
def wiRng1 (ws : WA) : WI := fun a q qe => ws a (fun rs a1 => on1 (conts a1 rs) fun j => (-(2 ^ 62) ≤ j ∧ j < 2 ^ 62) ∧ q (rangeD 0 j.toNat) a1) qe
theorem si_range1 {p : Pos} (hg : Gl X "range") (hm : X.mg "range" = none) (ha : SA X W [a] la ws) (hs : starEach [a] X.env = [(false, eval a X.env)] := by rfl) : SI X W tg (.Call (.Name "range" p) [a] [] pos) (iRng1 la) (wiRng1 ws) := by
  refine ⟨pi_range1 hg hm ha.1 hs, fun E F H σ a R q qe Rl hw lk lx => ha.2 E F H σ a _ _ _ Rl hw (fun vs rs F' H' a' e R' rps hn hq => ?_) lx⟩
  obtain ⟨j, c, ⟨h1, h2⟩, hk⟩ := on1_iff.mp hq
  exact ⟨j, conts1 R' rps c, h1, h2, lk _ _ F' H' a' e R' itr_ok hk⟩
def wiRng2 (ws : WA) : WI := fun a q qe => ws a (fun rs a1 => on2 (conts a1 rs) fun i j => (-(2 ^ 62) ≤ i ∧ i < 2 ^ 62 ∧ -(2 ^ 62) ≤ j ∧ j < 2 ^ 62) ∧ q (rangeD i (j - i).toNat) a1) qe
theorem si_range2 {p : Pos} (hg : Gl X "range") (hm : X.mg "range" = none) (ha : SA X W [a, b] la ws) (hs : starEach [a, b] X.env = [(false, eval a X.env), (false, eval b X.env)] := by rfl) (hs2 : starEach [b] X.env = [(false, eval b X.env)] := by rfl) : SI X W tg (.Call (.Name "range" p) [a, b] [] pos) (iRng2 la) (wiRng2 ws) := by
  refine ⟨pi_range2 hg hm ha.1 hs hs2, fun E F H σ a R q qe Rl hw lk lx => ha.2 E F H σ a _ _ _ Rl hw (fun vs rs F' H' a' e R' rps hn hq => ?_) lx⟩
  obtain ⟨i, j, c, h1, hk⟩ := on2_iff.mp hq
  exact ⟨i, j, conts2 R' rps c, h1, lk _ _ F' H' a' e R' itr_ok hk⟩
/-- a text's signs -/
def signsD (z : Str) : List D := z.cps.toList.map fun c => .str ⟨#[c]⟩

/-! ### for, while -/
/-- a loop, ready to be told its invariant -/
@[irreducible] def forS (items : List D) (wg : WG) (wb : WS) (D : EndsA) (a : PSt) : Prop := ∃ Inv : Nat → PSt → Prop, Inv 0 a ∧
  (∀ i a2 d, items[i]? = some d → Inv i a2 → wg d a2 fun a3 => wb { D with nx := Inv (i + 1), ct := Inv (i + 1), bk := D.nx } a3) ∧ ∀ a2, Inv items.length a2 → D.nx a2
theorem for_i {items : List D} {wg : WG} {wb : WS} {D : EndsA} {a : PSt} (Inv : Nat → PSt → Prop) (h0 : Inv 0 a)
    (hs : ∀ i a2 d, items[i]? = some d → Inv i a2 → wg d a2 fun a3 => wb { D with nx := Inv (i + 1), ct := Inv (i + 1), bk := D.nx } a3) (he : ∀ a2, Inv items.length a2 → D.nx a2) : forS items wg wb D a := by unfold forS; exact ⟨Inv, h0, hs, he⟩
theorem for_d {items : List D} {wg : WG} {wb : WS} {D : EndsA} {a : PSt} (h : forS items wg wb D a) : ∃ Inv : Nat → PSt → Prop, Inv 0 a ∧
  (∀ i a2 d, items[i]? = some d → Inv i a2 → wg d a2 fun a3 => wb { D with nx := Inv (i + 1), ct := Inv (i + 1), bk := D.nx } a3) ∧ ∀ a2, Inv items.length a2 → D.nx a2 := by unfold forS at h; exact h
/-- .. over a range -/
theorem for_r {lo : Int} {n : Nat} {wg : WG} {wb : WS} {D : EndsA} {a : PSt} (Inv : Nat → PSt → Prop) (h0 : Inv 0 a)
    (hs : ∀ i a2, i < n → Inv i a2 → wg (.int (lo + i)) a2 fun a3 => wb { D with nx := Inv (i + 1), ct := Inv (i + 1), bk := D.nx } a3) (he : ∀ a2, Inv n a2 → D.nx a2) : forS (rangeD lo n) wg wb D a := by
  refine for_i Inv h0 (fun i a2 d h hi => ?_) (fun a2 h => he a2 (by rw [rangeD_len] at h; exact h))
  obtain ⟨h1, rfl⟩ := rangeD_get.mp h
  exact hs i a2 h1 hi
def wFor (wi : WI) (wg : WG) (wb : WS) : WS := fun D a => wi a (fun items a1 => forS items wg wb D a1) D.ex
theorem ss_for {body : List Stmt} (hp : PassesOwn (model X.prog X.w) X.A X.env X.xe) (hc : X.calm = true) (hi : SI X W tg iter ti wi) (hg : SG X tg g wg sl) (hb : SSs X W body tb' wb) (hs : ∀ x, foldedSetIterable iter X.env x = pure x := by intro _; rfl) :
    SS X W (.For tg iter body [] pos) (tFor ti g tb') (wFor wi wg wb) := by
  refine ⟨ps_for hp hc hi.1 hg.1 hb.1 hs, fun E F H σ a D DA Rl hw l => hi.2 E F H σ a _ _ _ Rl hw (fun J items F1 H1 a1 e1 R1 it hq => ?_) (l.ex σ)⟩
  obtain ⟨Inv, h0, hst, hend⟩ := for_d hq
  refine ⟨fun i m σ' H' => m = items.length - i ∧ i ≤ items.length ∧ ∃ F2 a2, Same F1 F2 ∧ Rel X.K E F2 H' σ' a2 ∧ Inv i a2, ⟨_, rfl, Nat.zero_le _, F1, a1, Same.refl F1, R1, h0⟩, ?_⟩
  rintro i m σ' H' ⟨rfl, hi', F2, a2, s2, R2, hinv⟩
  by_cases hlt : i < items.length
  · refine .inr ⟨it.go i E σ' a2 F2 H' s2 R2 hlt, fun σ3 H3 => ∃ F3 a3, Same F1 F3 ∧ Rel X.K E F3 H3 σ3 a3 ∧ Inv (i + 1) a3, fun σ3 H3 ⟨F3, a3, s3, R3, h3⟩ => ⟨items.length - (i + 1), by omega, rfl, hlt, F3, a3, s3, R3, h3⟩, fun x H3 y => ?_⟩
    obtain ⟨F3, d, s3, R3, hd, rp⟩ := it.yld i E σ' a2 F2 H' x H3 s2 R2 hlt y
    refine hg.2 E F3 H3 σ' a2 x d _ _ R3 rp (hst i a2 d hd hinv) fun σ4 a4 _ R4 hq4 => hb.2 E F3 H3 σ4 a4 _ _ R4 hq4 ⟨fun σ5 F5 H5 a5 e5 R5 q5 => ?_, fun σ5 F5 H5 a5 e5 R5 q5 => ?_, fun σ5 F5 H5 a5 e5 R5 q5 => ?_, fun σ5 F5 H5 a5 v r e5 => ?_, fun σ5 => ?_⟩
    · exact ⟨F5, a5, (s2.trans s3).trans e5, R5, q5⟩
    · exact l.nx σ5 F5 H5 a5 (((e1.trans s2).trans s3).trans e5) R5 q5
    · exact ⟨F5, a5, (s2.trans s3).trans e5, R5, q5⟩
    · exact l.rt σ5 F5 H5 a5 v r (((e1.trans s2).trans s3).trans e5)
    · exact (l.ex σ5).to ((e1.trans s2).trans s3)
  · have e : i = items.length := by omega
    subst e
    exact .inl ⟨it.stop E σ' a2 F2 H' s2 R2, l.nx σ' F2 H' a2 (e1.trans s2) R2 (hend a2 hinv)⟩
@[irreducible] def whileS (wt : WT) (wb : WS) (D : EndsA) (a : PSt) : Prop := ∃ Inv : Nat → PSt → Prop, (∃ m, Inv m a) ∧ ∀ m a1, Inv m a1 → wt a1 (fun k a2 => br k (wb { D with nx := fun a3 => ∃ m', m' < m ∧ Inv m' a3, ct := fun a3 => ∃ m', m' < m ∧ Inv m' a3, bk := D.nx } a2) (D.nx a2)) D.ex
theorem while_i {wt : WT} {wb : WS} {D : EndsA} {a : PSt} (Inv : Nat → PSt → Prop) (m : Nat) (h0 : Inv m a)
    (hs : ∀ m a1, Inv m a1 → wt a1 (fun k a2 => br k (wb { D with nx := fun a3 => ∃ m', m' < m ∧ Inv m' a3, ct := fun a3 => ∃ m', m' < m ∧ Inv m' a3, bk := D.nx } a2) (D.nx a2)) D.ex) : whileS wt wb D a := by unfold whileS; exact ⟨Inv, ⟨m, h0⟩, hs⟩
theorem while_d {wt : WT} {wb : WS} {D : EndsA} {a : PSt} (h : whileS wt wb D a) : ∃ Inv : Nat → PSt → Prop, (∃ m, Inv m a) ∧ ∀ m a1, Inv m a1 → wt a1 (fun k a2 => br k (wb { D with nx := fun a3 => ∃ m', m' < m ∧ Inv m' a3, ct := fun a3 => ∃ m', m' < m ∧ Inv m' a3, bk := D.nx } a2) (D.nx a2)) D.ex := by unfold whileS at h; exact h
def wWhile (wt : WT) (wb : WS) : WS := fun D a => whileS wt wb D a
theorem ss_while {body : List Stmt} (hp : PassesOwn (model X.prog X.w) X.A X.env X.xe) (hc : ST X W c ua wt) (hb : SSs X W body tb' wb) : SS X W (.While c body [] pos) (tWhile ua tb') (wWhile wt wb) := by
  refine ⟨ps_while hp hc.1 hb.1, fun E F H σ a D DA R hw l => ?_⟩
  obtain ⟨Inv, ⟨m0, h0⟩, hst⟩ := while_d hw
  refine ⟨fun m σ' H' => ∃ F2 a2, Same F F2 ∧ Rel X.K E F2 H' σ' a2 ∧ Inv m a2, ⟨m0, F, a, Same.refl F, R, h0⟩, ?_⟩
  rintro m σ' H' ⟨F2, a2, s2, R2, hinv⟩
  refine hc.2 E F2 H' σ' a2 _ _ _ R2 (hst m a2 hinv) (fun k F3 H3 a3 e3 R3 q3 => ?_) ((l.ex σ').to s2)
  cases k with
  | false => exact l.nx σ' F3 H3 a3 (s2.trans e3) R3 (br_ff q3 rfl)
  | true =>
    refine ⟨fun σ4 H4 => ∃ m', m' < m ∧ ∃ F4 a4, Same F F4 ∧ Rel X.K E F4 H4 σ4 a4 ∧ Inv m' a4, fun σ4 H4 h => h, hb.2 E F3 H3 σ' a3 _ _ R3 (br_tt q3 rfl) ⟨fun σ5 F5 H5 a5 e5 R5 q5 => ?_, fun σ5 F5 H5 a5 e5 R5 q5 => ?_, fun σ5 F5 H5 a5 e5 R5 q5 => ?_, fun σ5 F5 H5 a5 v r e5 => ?_, fun σ5 => ?_⟩⟩
    · obtain ⟨m', h1, h2⟩ := q5
      exact ⟨m', h1, F5, a5, (s2.trans e3).trans e5, R5, h2⟩
    · exact l.nx σ5 F5 H5 a5 ((s2.trans e3).trans e5) R5 q5
    · obtain ⟨m', h1, h2⟩ := q5
      exact ⟨m', h1, F5, a5, (s2.trans e3).trans e5, R5, h2⟩
    · exact l.rt σ5 F5 H5 a5 v r ((s2.trans e3).trans e5)
    · exact (l.ex σ5).to (s2.trans e3)
end

/-! ### comprehensions -/
def wipeA (a : PSt) : List Nat → PSt
  | [] => a
  | v :: vs => (wipeA a vs).set v none
/-- behind a comprehension: the data that its names had ahead of it -/
def keepNo (a1 : PSt) : List Nat → PSt → PSt
  | [], a2 => a2
  | v :: vs, a2 => (keepNo a1 vs a2).set v (match a1[v]? with
    | some (some ⟨.no, c⟩) => some ⟨.no, c⟩
    | _ => none)
section
variable {K : PySem.W.Frag} {E : En} {F F' H H' : Hp} {σ : L2.St} {a : PSt}
theorem Rel.wipe (R : Rel K E F H σ a) : ∀ vs : List Nat, Rel K E F H (L2.wipe σ vs) (wipeA a vs)
  | [] => R
  | v :: vs => by unfold L2.wipe wipeA; exact (Rel.wipe R vs).forget v none
theorem wipeA_some {i : Nat} {av : AV} : ∀ {vs : List Nat}, (wipeA a vs)[i]? = some (some av) → a[i]? = some (some av) ∧ i ∉ vs
  | [], h => ⟨h, by simp⟩
  | v :: vs, h => by
    unfold wipeA at h
    by_cases hi : v = i
    · subst hi
      have hl := (List.getElem?_eq_some_iff.mp h).1
      rw [List.length_set] at hl
      rw [List.getElem?_set_self hl] at h
      cases h
    · rw [List.getElem?_set_ne hi] at h
      obtain ⟨h1, h2⟩ := wipeA_some h
      exact ⟨h1, fun m => by rcases List.mem_cons.mp m with e | e; exact hi e.symm; exact h2 e⟩
theorem wipeA_length : ∀ vs : List Nat, (wipeA a vs).length = a.length
  | [] => rfl
  | v :: vs => by unfold wipeA; rw [List.length_set, wipeA_length vs]
/-- a state that says less, over slots that agree where it says something -/
theorem Rel.less {σ' : L2.St} {a' : PSt} (R : Rel K E F H σ a) (hl : a'.length = σ'.length) (h : ∀ (i : Nat) (av : AV), a'[i]? = some (some av) → a[i]? = some (some av) ∧ σ'[i]? = σ[i]?) : Rel K E F H σ' a' :=
  ⟨R.ext, R.f0, R.new, R.keep, R.dom, R.lt, hl, fun i av e => by
    obtain ⟨h1, h2⟩ := h i av e
    rw [h2]
    exact R.sl i av h1, fun i j ai aj p hij ei ej oi oj si sj => by
    obtain ⟨h1, h2⟩ := h i ai ei
    obtain ⟨h3, h4⟩ := h j aj ej
    rw [h2] at si
    rw [h4] at sj
    exact R.dis i j ai aj p hij h1 h3 oi oj si sj⟩
theorem Rel.put (R : Rel K E F H σ a) {i : Nat} {x : Option AV} (h : x = none ∨ ∃ c u, x = some ⟨.no, c⟩ ∧ σ[i]? = some (some u) ∧ Rep K F u c) : Rel K E F H σ (a.set i x) := by
  have hno : ∀ (j : Nat) (aj : AV), (a.set i x)[j]? = some (some aj) → aj.o ≠ .no → j ≠ i := fun j aj e ho z => by
    subst z
    have hl := (List.getElem?_eq_some_iff.mp e).1
    rw [List.length_set] at hl
    rw [List.getElem?_set_self hl] at e
    rcases h with rfl | ⟨c, u, rfl, _⟩
    · cases e
    · cases e; exact ho rfl
  refine ⟨R.ext, R.f0, R.new, R.keep, R.dom, R.lt, by rw [List.length_set]; exact R.len, fun j av e => ?_, fun j k aj ak p hjk ej ek oj ok sj sk => ?_⟩
  · by_cases hj : j = i
    · subst hj
      have hl := (List.getElem?_eq_some_iff.mp e).1
      rw [List.length_set] at hl
      rw [List.getElem?_set_self hl] at e
      rcases h with rfl | ⟨c, u, rfl, h1, h2⟩
      · cases e
      · cases e; exact ⟨u, h1, h2⟩
    · rw [List.getElem?_set_ne (Ne.symm hj)] at e
      exact R.sl j av e
  · have nj := hno j aj ej oj
    have nk := hno k ak ek ok
    rw [List.getElem?_set_ne (Ne.symm nj)] at ej
    rw [List.getElem?_set_ne (Ne.symm nk)] at ek
    exact R.dis j k aj ak p hjk ej ek oj ok sj sk
theorem Rel.keepNo {F1 H1 : Hp} {a1 : PSt} (R1 : Rel K E F1 H1 σ a1) (e : Same F1 F) (R : Rel K E F H σ a) : ∀ vs : List Nat, Rel K E F H σ (DS.keepNo a1 vs a)
  | [] => R
  | v :: vs => by
    unfold DS.keepNo
    refine (Rel.keepNo R1 e R vs).put ?_
    split
    · rename_i c h
      obtain ⟨u, h1, h2⟩ := R1.sl v _ h
      exact .inr ⟨c, u, rfl, h1, Rep.mono e h2⟩
    · exact .inl rfl
/-- a new list is made on the side, at Dd -/
def En.side (E : En) (Dd : Addr) (o : HO) : En := { E with H := upd E.H Dd o }
theorem Rel.toSide (R : Rel K E F H σ a) {Dd : Addr} {o : HO} (hF : F Dd = none) (hE : E.H Dd = none) (hO : ¬ Owned σ a Dd) (hH : H Dd = some o) : Rel K (E.side Dd o) F H σ a := by
  have hL : ¬ E.L Dd := fun z => R.lt Dd z hE
  refine ⟨R.ext, R.f0, fun p u e => ?_, fun p u e l => ?_, fun p e => ?_, fun p l => ?_, R.len, fun i av e => ?_, R.dis⟩
  · rcases R.new p u e with z | z | z
    · exact .inl z
    · refine .inr (.inl ?_)
      show upd E.H Dd o p = none
      rw [upd_ne (ne_of_none e hF)]
      exact z
    · exact .inr (.inr z)
  · by_cases hp : p = Dd
    · subst hp
      have : upd E.H p o p = some u := e
      rw [upd_same] at this
      rw [hH]
      exact this
    · have e' : upd E.H Dd o p = some u := e
      rw [upd_ne hp] at e'
      exact R.keep p u e' l
  · show upd E.H Dd o p = none
    have hp : p ≠ Dd := fun z => by rw [z, hH] at e; cases e
    rw [upd_ne hp]
    exact R.dom p e
  · show upd E.H Dd o p ≠ none
    have hp : p ≠ Dd := fun z => hL (z ▸ l)
    rw [upd_ne hp]
    exact R.lt p l
  · obtain ⟨v, e1, q⟩ := R.sl i av e
    refine ⟨v, e1, ?_⟩
    obtain ⟨ow, c⟩ := av
    cases ow with
    | no => exact q
    | own =>
      obtain ⟨p, rfl, h1, h2, h3⟩ := q
      have hp : p ≠ Dd := fun z => hO ⟨i, _, e, by simp, by rw [e1, z]⟩
      refine ⟨p, rfl, h1, ?_, h3⟩
      show upd E.H Dd o p = none
      rw [upd_ne hp]
      exact h2
    | lent => exact q
theorem Rel.ofSide {Dd : Addr} {o : HO} (R : Rel K (E.side Dd o) F H σ a) (hE : E.H Dd = none) (hL : ¬ E.L Dd) (hF0 : E.F Dd = none) (ho : ∀ xs, o ≠ .tup xs := by intro _ z; cases z) : Rel K E F H σ a ∧ F Dd = none ∧ ¬ Owned σ a Dd ∧ H Dd = some o := by
  have sH : ∀ p, (E.side Dd o).H p = none → E.H p = none := fun p h => by
    have h' : upd E.H Dd o p = none := h
    by_cases hp : p = Dd
    · rw [hp]; exact hE
    · rw [upd_ne hp] at h'; exact h'
  have nD : (E.side Dd o).H Dd ≠ none := fun z => by
    have z' : upd E.H Dd o Dd = none := z
    rw [upd_same] at z'
    cases z'
  refine ⟨⟨R.ext, R.f0, fun p u e => ?_, fun p u e l => ?_, fun p e => sH p (R.dom p e), fun p l => ?_, R.len, fun i av e => ?_, R.dis⟩, ?_, fun ⟨i, av, h1, h2, h3⟩ => ?_, R.keep Dd o upd_same hL⟩
  · rcases R.new p u e with z | z | z
    · exact .inl z
    · exact .inr (.inl (sH p z))
    · exact .inr (.inr z)
  · refine R.keep p u ?_ l
    show upd E.H Dd o p = some u
    rw [upd_ne (ne_of_none e hE)]
    exact e
  · intro z
    have := R.lt p l
    apply this
    show upd E.H Dd o p = none
    rw [upd_ne (show p ≠ Dd from fun y => hL (by rw [← y]; exact l))]
    exact z
  · obtain ⟨v, e1, q⟩ := R.sl i av e
    refine ⟨v, e1, ?_⟩
    obtain ⟨ow, c⟩ := av
    cases ow with
    | no => exact q
    | own =>
      obtain ⟨p, rfl, h1, h2, h3⟩ := q
      exact ⟨p, rfl, h1, sH p h2, h3⟩
    | lent => exact q
  · cases e : F Dd with
    | none => rfl
    | some u =>
      rcases R.new Dd u e with z | z | ⟨xs, rfl⟩
      · have z' : E.F Dd = some u := z
        rw [hF0] at z'
        cases z'
      · exact absurd z nD
      · have y1 := R.ext Dd _ e
        have y2 := R.keep Dd o upd_same hL
        rw [y1] at y2
        cases y2
        exact absurd rfl (ho xs)
  · obtain ⟨v, e1, q⟩ := R.sl i av h1
    rw [h3] at e1
    cases e1
    obtain ⟨ow, c⟩ := av
    cases ow with
    | no => exact h2 rfl
    | own => obtain ⟨p, e2, _, h5, _⟩ := q; cases e2; exact nD h5
    | lent => obtain ⟨p, e2, _, h5, _⟩ := q; cases e2; exact hL h5
end
theorem wipe_only {σ σ2 : L2.St} {vs sl : List Nat} (h : Only sl (L2.wipe σ vs) σ2) (hs : ∀ j ∈ sl, j ∈ vs) : L2.wipe σ2 vs = L2.wipe σ vs := by
  have hw : ∀ (τ : L2.St) (ws : List Nat) (i : Nat), i ∈ ws → i < τ.length → (L2.wipe τ ws)[i]? = some none := by
    intro τ ws i
    induction ws with
    | nil => intro h; cases h
    | cons v ws ih =>
      intro h hl
      unfold L2.wipe
      by_cases hv : v = i
      · subst hv
        rw [List.getElem?_set_self (by rw [L2.wipe_length]; exact hl)]
      · rw [List.getElem?_set_ne hv]
        rcases List.mem_cons.mp h with e | e
        · exact absurd e.symm hv
        · exact ih e hl
  have hl : σ2.length = σ.length := by rw [h.1, L2.wipe_length]
  apply List.ext_getElem?
  intro i
  by_cases hi : i ∈ vs
  · by_cases hlt : i < σ.length
    · rw [hw σ2 vs i hi (by omega), hw σ vs i hi hlt]
    · rw [List.getElem?_eq_none (by rw [L2.wipe_length]; omega), List.getElem?_eq_none (by rw [L2.wipe_length]; omega)]
  · rw [L2.wipe_out hi, h.2 i fun z => hi (hs i z)]
def STs (X : Cx) (W : L2.St → XK) (ifs : List Expr) (t : TT) (w : WT) : Prop := PTs X ifs t ∧ ∀ E F H σ a Q q qe, Rel X.K E F H σ a → w a q qe → Lt X.K E F σ q Q → Lx X.K E F σ qe (W σ) → t σ H Q
def wtYes : WT := fun a q _ => q true a
abbrev W0 : L2.St → XK := fun _ _ _ _ => False
section
variable {X : Cx} {W : L2.St → XK} {c : Expr} {ua : TT} {wt : WT}
theorem sts_nil : STs X W [] tYes wtYes := ⟨pts_nil, fun E F H σ a Q q qe R hw l _ => l true F H a (Same.refl F) R hw⟩
theorem sts_one (h : ST X W c ua wt) : STs X W [c] ua wt := ⟨pts_one h.1, h.2⟩
end
/-- [e for x in xs if t]: Inv by the turn, the list so far, the state -/
@[irreducible] def lcS (items : List D) (vs : List Nat) (wg : WG) (wt : WT) (we : WE) (a1 : PSt) (q : Res → PSt → Prop) : Prop := ∃ Inv : Nat → List D → PSt → Prop, Inv 0 [] a1 ∧
  (∀ i acc a2 d, items[i]? = some d → Inv i acc a2 → wg d (wipeA a2 vs) fun a3 => wt a3 (fun b a4 => br b
    (we a4 (fun r a5 => fz r a5 fun y a6 => acc.length < sizeLine ∧ Inv (i + 1) (acc ++ [y]) (wipeA a6 vs)) (fun _ _ => False)) (Inv (i + 1) acc (wipeA a4 vs))) (fun _ _ => False)) ∧
  ∀ acc a2, Inv items.length acc a2 → q (.new (.lst acc)) (keepNo a1 vs a2)
theorem lc_d {items : List D} {vs : List Nat} {wg : WG} {wt : WT} {we : WE} {a1 : PSt} {q : Res → PSt → Prop} (h : lcS items vs wg wt we a1 q) : ∃ Inv : Nat → List D → PSt → Prop, Inv 0 [] a1 ∧
  (∀ i acc a2 d, items[i]? = some d → Inv i acc a2 → wg d (wipeA a2 vs) fun a3 => wt a3 (fun b a4 => br b
    (we a4 (fun r a5 => fz r a5 fun y a6 => acc.length < sizeLine ∧ Inv (i + 1) (acc ++ [y]) (wipeA a6 vs)) (fun _ _ => False)) (Inv (i + 1) acc (wipeA a4 vs))) (fun _ _ => False)) ∧
  ∀ acc a2, Inv items.length acc a2 → q (.new (.lst acc)) (keepNo a1 vs a2) := by unfold lcS at h; exact h
theorem lc_i {items : List D} {vs : List Nat} {wg : WG} {wt : WT} {we : WE} {a1 : PSt} {q : Res → PSt → Prop} (Inv : Nat → List D → PSt → Prop) (h0 : Inv 0 [] a1)
    (hs : ∀ i acc a2 d, items[i]? = some d → Inv i acc a2 → wg d (wipeA a2 vs) fun a3 => wt a3 (fun b a4 => br b
    (we a4 (fun r a5 => fz r a5 fun y a6 => acc.length < sizeLine ∧ Inv (i + 1) (acc ++ [y]) (wipeA a6 vs)) (fun _ _ => False)) (Inv (i + 1) acc (wipeA a4 vs))) (fun _ _ => False))
    (he : ∀ acc a2, Inv items.length acc a2 → q (.new (.lst acc)) (keepNo a1 vs a2)) : lcS items vs wg wt we a1 q := by unfold lcS; exact ⟨Inv, h0, hs, he⟩
def wLc (wi : WI) (vs : List Nat) (wg : WG) (wt : WT) (we : WE) : WE := fun a q qe => wi a (fun items a1 => lcS items vs wg wt we a1 q) qe
theorem lc_ok {K : PySem.W.Frag} {W : L2.St → XK} {ti : TI} {wi : WI} {g : TG} {wg : WG} {tt : TT} {wt : WT} {te : TE} {we : WE} {vs sl : List Nat}
    (hi : ∀ E F H σ a R q qe, Rel K E F H σ a → wi a q qe → Li K E F σ q R → Lx K E F σ qe (W σ) → ti σ H R)
    (hg : ∀ E F H σ a v d Q q, Rel K E F H σ a → Rep K F v d → wg d a q → (∀ σ' a', Only sl σ σ' → Rel K E F H σ' a' → q a' → Q σ' H) → g v σ H Q) (hsl : ∀ j ∈ sl, j ∈ vs)
    (ht : ∀ E F H σ a Q q qe, Rel K E F H σ a → wt a q qe → Lt K E F σ q Q → Lx K E F σ qe (W0 σ) → tt σ H Q)
    (he : ∀ E F H σ a Q q qe, Rel K E F H σ a → we a q qe → Ln K E F σ q Q → Lx K E F σ qe (W0 σ) → te σ H Q) :
    ∀ E F H σ a Q q qe, Rel K E F H σ a → wLc wi vs wg wt we a q qe → Ln K E F σ q Q → Lx K E F σ qe (W σ) → tLc ti g tt te vs σ H Q := by
  intro E F H σ a Q q qe R hw l lx
  refine hi E F H σ a _ _ _ R hw (fun J items F1 H1 a1 e1 R1 it hq => ?_) lx
  obtain ⟨Inv, h0, hst, hend⟩ := lc_d hq
  intro Dd hD
  obtain ⟨f1, f2, f3⟩ := R1.fresh hD
  have hL : ¬ E.L Dd := fun z => R1.lt Dd z f2
  have hF0 : E.F Dd = none := R1.f0.free f1
  refine ⟨fun i m H' => m = items.length - i ∧ i ≤ items.length ∧ ∃ F2 a2 accV acc, Same F1 F2 ∧ Rel K (E.side Dd (.lst accV)) F2 H' σ a2 ∧ Reps K F2 accV acc ∧ Inv i acc a2,
    ⟨_, rfl, Nat.zero_le _, F1, a1, [], [], Same.refl F1, (R1.lay (.lst []) hD).toSide f1 f2 f3 upd_same, .nil, h0⟩, ?_⟩
  rintro i m H' ⟨rfl, hi', F2, a2, accV, acc, s2, R2, racc, hinv⟩
  by_cases hlt : i < items.length
  · refine .inr ⟨it.go i _ σ a2 F2 H' s2 R2 hlt, fun H3 => ∃ F3 a3 accV acc, Same F1 F3 ∧ Rel K (E.side Dd (.lst accV)) F3 H3 σ a3 ∧ Reps K F3 accV acc ∧ Inv (i + 1) acc a3,
      fun H3 ⟨F3, a3, av, ac, s3, R3, r3, h3⟩ => ⟨items.length - (i + 1), by omega, rfl, hlt, F3, a3, av, ac, s3, R3, r3, h3⟩, fun x H3 y => ?_⟩
    obtain ⟨F3, d, s3, R3, hd, rp⟩ := it.yld i _ σ a2 F2 H' x H3 s2 R2 hlt y
    refine hg _ F3 H3 (L2.wipe σ vs) (wipeA a2 vs) x d _ _ (R3.wipe vs) rp (hst i acc a2 d hd hinv) fun σ4 a4 o4 R4 hq4 => ⟨wipe_only o4 hsl, ?_⟩
    have back : ∀ {F5 H5 : Hp} {a5 : PSt} {EE : En}, Rel K EE F5 H5 σ4 a5 → Rel K EE F5 H5 σ (wipeA a5 vs) := fun {F5 H5 a5 EE} R5 => by
      refine R5.less (by rw [wipeA_length, R5.len, o4.1, L2.wipe_length]) fun j av e => ?_
      obtain ⟨h1, h2⟩ := wipeA_some e
      refine ⟨h1, ?_⟩
      rw [o4.2 j fun z => h2 (hsl j z), L2.wipe_out h2]
    refine ht _ F3 H3 σ4 a4 _ _ _ R4 hq4 (fun b F5 H5 a5 e5 R5 q5 => ?_) (fun x a c dx F5 H5 _ _ _ z => z)
    cases b with
    | false =>
      rw [if_neg Bool.false_ne_true]
      exact ⟨F5, _, accV, acc, (s2.trans s3).trans e5, back R5, (racc.mono s3).mono e5, br_ff q5 rfl⟩
    | true =>
      rw [if_pos rfl]
      refine he _ F5 H5 σ4 a5 _ _ _ R5 (br_tt q5 rfl) (fun v r F6 H6 a6 e6 R6 rp6 q6 => ?_) (fun x a c dx F5 H5 _ _ _ z => z)
      obtain ⟨F7, a7, yd, s7, R7, rp7, hz, hinv'⟩ := fz_ok R6 rp6 q6
      have R8 := back R7
      obtain ⟨R9, g1, g2, g3⟩ := R8.ofSide f2 hL hF0
      have sAll : Same F3 F7 := (e5.trans e6).trans s7
      have racc' : Reps K F7 accV acc := (racc.mono s3).mono sAll
      refine ⟨accV, g3, by rw [racc'.length]; exact hz, F7, _, accV ++ [v], acc ++ [yd], (s2.trans s3).trans sAll, ?_, racc'.append (.cons rp7 .nil), hinv'⟩
      have R10 : Rel K E F7 (upd H6 Dd (.lst (accV ++ [v]))) σ (wipeA a7 vs) := by
        refine ⟨fun b u e => ?_, R9.f0, R9.new, fun b u e l' => ?_, fun b e => ?_, R9.lt, R9.len, fun j av e => ?_, R9.dis⟩
        · rw [upd_ne (ne_of_none e g1)]; exact R9.ext _ _ e
        · rw [upd_ne (ne_of_none e f2)]; exact R9.keep _ _ e l'
        · by_cases hb : b = Dd
          · rw [hb]; exact f2
          · rw [upd_ne hb] at e; exact R9.dom _ e
        · obtain ⟨u, e1', q⟩ := R9.sl j av e
          refine ⟨u, e1', ?_⟩
          have hne : ∀ p, u = .ref p → av.o ≠ .no → p ≠ Dd := fun p hp ho z => g2 ⟨j, av, e, ho, by rw [e1', hp, z]⟩
          obtain ⟨ow, cc⟩ := av
          cases ow with
          | no => exact q
          | own => obtain ⟨p, rfl, h1, h2, o, h3, h4⟩ := q; exact ⟨p, rfl, h1, h2, o, by rw [upd_ne (hne p rfl (by simp))]; exact h3, h4⟩
          | lent => obtain ⟨p, rfl, h1, h2, h5, o, h3, h4⟩ := q; exact ⟨p, rfl, h1, h2, h5, o, by rw [upd_ne (hne p rfl (by simp))]; exact h3, h4⟩
      exact R10.toSide g1 f2 g2 upd_same
  · have e : i = items.length := by omega
    subst e
    obtain ⟨R3, g1, g2, g3⟩ := R2.ofSide f2 hL hF0
    refine .inl ⟨it.stop _ σ a2 F2 H' s2 R2, ?_⟩
    have R4 := Rel.keepNo R1 s2 R3 vs
    refine l (.ref Dd) (.new (.lst acc)) F2 H' _ (e1.trans s2) R4 ⟨Dd, rfl, g1, f2, ⟨_, g3, .lst racc⟩, fun ⟨j, av, h1, h2, h3⟩ => ?_⟩ (hend acc a2 hinv)
    -- what keepNo owns, a2 owns
    have kn : ∀ (ws : List Nat) (j : Nat) (av : AV), (keepNo a1 ws a2)[j]? = some (some av) → av.o ≠ .no → a2[j]? = some (some av) := by
      intro ws
      induction ws with
      | nil => exact fun j av h _ => h
      | cons v ws ih =>
        intro j av h ho
        unfold keepNo at h
        by_cases hv : v = j
        · subst hv
          have hl := (List.getElem?_eq_some_iff.mp h).1
          rw [List.length_set] at hl
          rw [List.getElem?_set_self hl] at h
          split at h
          · cases h; exact absurd rfl ho
          · cases h
        · rw [List.getElem?_set_ne hv] at h
          exact ih j av h ho
    exact g2 ⟨j, av, kn vs j av h1 h2, h2, h3⟩
/-! the reading that a word itself tells: it hangs on K alone -/
def tE (K : PySem.W.Frag) (W : L2.St → XK) (w : WE) : TE := fun σ H Q => ∃ E F a q qe, Rel K E F H σ a ∧ w a q qe ∧ Ln K E F σ q Q ∧ Lx K E F σ qe (W σ)
def tT (K : PySem.W.Frag) (W : L2.St → XK) (w : WT) : TT := fun σ H Q => ∃ E F a q qe, Rel K E F H σ a ∧ w a q qe ∧ Lt K E F σ q Q ∧ Lx K E F σ qe (W σ)
def gG (K : PySem.W.Frag) (wg : WG) (sl : List Nat) : TG := fun v σ H Q => ∃ E F a d q, Rel K E F H σ a ∧ Rep K F v d ∧ wg d a q ∧ ∀ σ' a', Only sl σ σ' → Rel K E F H σ' a' → q a' → Q σ' H
theorem SE.own {X : Cx} {W : L2.St → XK} {e : Expr} {t : TE} {w : WE} (h : SE X W e t w) : PE X e (tE X.K W w) :=
  ⟨fun pins s σ H Q I ⟨E, F, a, q, qe, R, hw, l, lx⟩ => h.1.run pins s σ H Q I (h.2 E F H σ a Q q qe R hw l lx)⟩
theorem STs.own {X : Cx} {W : L2.St → XK} {es : List Expr} {t : TT} {w : WT} (h : STs X W es t w) : PTs X es (tT X.K W w) :=
  ⟨fun pins s σ H Q I ⟨E, F, a, q, qe, R, hw, l, lx⟩ => h.1.run pins s σ H Q I (h.2 E F H σ a Q q qe R hw l lx)⟩
theorem SG.own {X : Cx} {e : Expr} {g : TG} {wg : WG} {sl : List Nat} (h : SG X e g wg sl) : PG X e (gG X.K wg sl) :=
  ⟨fun pins s σ H v u Q I r ⟨E, F, a, d, q, R, rp, hw, l⟩ => h.1.run pins s σ H v u Q I r (h.2 E F H σ a v d Q q R rp hw l)⟩
section
variable {X : Cx} {W : L2.St → XK}
theorem se_lc {elt tg iter : Expr} {ifs : List Expr} {scope : Scope} {own : List (Str × Nat)} {pos : Pos} {ti : TI} {wi : WI} {wg : WG} {wt : WT} {we : WE} {sl : List Nat} (hc : X.calm = true) (hN : X.N.Nodup) (hi : SI X W tg iter ti wi) (ok : BlkOk X.N X.env.scope scope own)
    (hg : ∀ (s : Shared) (H : Hp) (C : Addr) (cl : List (Str × Addr)) (fp : List Addr), ∃ g, SG (X.blk s H scope (compEnvC scope cl C X.env) fp) tg g wg sl) (hsl : ∀ j ∈ sl, j ∈ own.map (·.2))
    (ht : ∀ (s : Shared) (H : Hp) (C : Addr) (cl : List (Str × Addr)) (fp : List Addr), ∃ t, STs (X.blk s H scope (compEnvC scope cl C X.env) fp) W0 ifs t wt)
    (he : ∀ (s : Shared) (H : Hp) (C : Addr) (cl : List (Str × Addr)) (fp : List Addr), ∃ t, SE (X.blk s H scope (compEnvC scope cl C X.env) fp) W0 elt t we) (hs : ∀ x, foldedSetIterable iter X.env x = pure x := by intro _; rfl) :
    SE X W (.ListComp elt [⟨tg, iter, ifs, 0⟩] scope pos) (tLc ti (gG X.K wg sl) (tT X.K W0 wt) (tE X.K W0 we) (own.map (·.2))) (wLc wi (own.map (·.2)) wg wt we) :=
  ⟨pe_lc hc hN hi.1 ok (fun s H C cl fp => let ⟨_, h⟩ := hg s H C cl fp; h.own) (fun s H C cl fp => let ⟨_, h⟩ := ht s H C cl fp; h.own) (fun s H C cl fp => let ⟨_, h⟩ := he s H C cl fp; h.own) hs,
    lc_ok hi.2 (fun E F H σ a v d Q q R rp hw l => ⟨E, F, a, d, q, R, rp, hw, l⟩) hsl (fun E F H σ a Q q qe R hw l lx => ⟨E, F, a, q, qe, R, hw, l, lx⟩) (fun E F H σ a Q q qe R hw l lx => ⟨E, F, a, q, qe, R, hw, l, lx⟩)⟩
theorem ss_setLc {i : Nat} {y : Str} {py : Pos} {elt tg iter : Expr} {ifs : List Expr} {scope : Scope} {own : List (Str × Nat)} {pos spos : Pos} {ti : TI} {wi : WI} {wg : WG} {wt : WT} {we : WE} {sl : List Nat} (hc : X.calm = true) (hN : X.N.Nodup) (hy : X.N[i]? = some y) (hyl : X.env.scope.names.lookup y = some .local)
    (hsw : swapsWith (.ListComp elt [⟨tg, iter, ifs, 0⟩] scope pos) (some (.Name y py)) spos.line X.env = pure true) (hi : SI X W tg iter ti wi) (ok : BlkOk X.N X.env.scope scope own)
    (hg : ∀ (s : Shared) (H : Hp) (C : Addr) (cl : List (Str × Addr)) (fp : List Addr), ∃ g, SG (X.blk s H scope (compEnvC scope cl C X.env) fp) tg g wg sl) (hsl : ∀ j ∈ sl, j ∈ own.map (·.2))
    (ht : ∀ (s : Shared) (H : Hp) (C : Addr) (cl : List (Str × Addr)) (fp : List Addr), ∃ t, STs (X.blk s H scope (compEnvC scope cl C X.env) fp) W0 ifs t wt)
    (he : ∀ (s : Shared) (H : Hp) (C : Addr) (cl : List (Str × Addr)) (fp : List Addr), ∃ t, SE (X.blk s H scope (compEnvC scope cl C X.env) fp) W0 elt t we) (hs : ∀ x, foldedSetIterable iter X.env x = pure x := by intro _; rfl) :
    SS X W (.Assign [.Name y py] (.ListComp elt [⟨tg, iter, ifs, 0⟩] scope pos) spos) (tAsg (tLc ti (gG X.K wg sl) (tT X.K W0 wt) (tE X.K W0 we) (own.map (·.2))) (gName i)) (wSet i (wLc wi (own.map (·.2)) wg wt we)) := by
  refine ⟨ps_setLc hc hN hy hyl hsw hi.1 ok (fun s H C cl fp => let ⟨_, h⟩ := hg s H C cl fp; h.own) (fun s H C cl fp => let ⟨_, h⟩ := ht s H C cl fp; h.own) (fun s H C cl fp => let ⟨_, h⟩ := he s H C cl fp; h.own) hs, fun E F H σ a D DA R hw l => ?_⟩
  refine lc_ok (W := W) hi.2 (fun E F H σ a v d Q q R rp hw l => ⟨E, F, a, d, q, R, rp, hw, l⟩) hsl (fun E F H σ a Q q qe R hw l lx => ⟨E, F, a, q, qe, R, hw, l, lx⟩) (fun E F H σ a Q q qe R hw l lx => ⟨E, F, a, q, qe, R, hw, l, lx⟩) E F H σ a _ _ _ R hw (fun v r F' H' a' e R' rp q => ?_) (l.ex σ)
  obtain ⟨F2, a2, s, R2, hk⟩ := sto_ok R' rp q
  exact l.nx _ F2 H' a2 (e.trans s) R2 hk
end

/-! ### a def -/
def initA (n : Nat) (as : List AV) : PSt := as.map some ++ List.replicate (n - as.length) none
def outs : List AV → PSt → Option (List AV)
  | [], _ => some []
  | ⟨.lent, _⟩ :: as, x :: a => match x with
    | some ⟨.lent, c⟩ => (outs as a).map (⟨.lent, c⟩ :: ·)
    | _ => none
  | av :: as, _ :: a => (outs as a).map (av :: ·)
  | _ :: _, [] => none
theorem outs_at : ∀ {as : List AV} {a : PSt} {as' : List AV} {k : Nat} {c : D}, outs as a = some as' → as[k]? = some ⟨.lent, c⟩ → ∃ c', as'[k]? = some ⟨.lent, c'⟩ ∧ a[k]? = some (some ⟨.lent, c'⟩)
  | [], _, _, _, _, _, h => by simp at h
  | ⟨o, _⟩ :: _, [], _, _, _, h, _ => by cases o <;> cases h
  | ⟨o, d⟩ :: as, x :: a, as', 0, c, h, hk => by
    simp at hk
    obtain ⟨rfl, rfl⟩ := hk
    unfold outs at h
    split at h
    · obtain ⟨r, h1, rfl⟩ := Option.map_eq_some_iff.mp h
      exact ⟨_, rfl, rfl⟩
    · cases h
  | ⟨o, d⟩ :: as, x :: a, as', k + 1, c, h, hk => by
    simp at hk
    have go : ∀ (av : AV), (outs as a).map (av :: ·) = some as' → ∃ c', as'[k + 1]? = some ⟨.lent, c'⟩ ∧ (x :: a)[k + 1]? = some (some ⟨.lent, c'⟩) := fun av h => by
      obtain ⟨r, h1, rfl⟩ := Option.map_eq_some_iff.mp h
      obtain ⟨c', q1, q2⟩ := outs_at h1 hk
      exact ⟨c', by simpa using q1, by simpa using q2⟩
    cases o with
    | no => exact go _ h
    | own => exact go _ h
    | lent =>
      unfold outs at h
      split at h
      · exact go _ h
      · cases h
theorem entry_rel {K : PySem.W.Frag} {F H : Hp} {vs : List V} {as : List AV} {N : List Str} (A : ArgsOk K F H vs as) (hN : as.length ≤ N.length) : Rel K ⟨F, H, LentAt vs as, vs⟩ F H (start N vs) (initA N.length as) := by
  have ga : ∀ (i : Nat) (av : AV), (initA N.length as)[i]? = some (some av) → as[i]? = some av := fun i av h => by
    unfold initA at h
    by_cases hi : i < as.length
    · rw [List.getElem?_append_left (by simpa using hi), List.getElem?_map] at h
      cases e : as[i]? with
      | none => rw [e] at h; cases h
      | some x => rw [e] at h; cases h; rfl
    · rw [List.getElem?_append_right (by simpa using hi), List.getElem?_replicate] at h
      split at h <;> cases h
  have gv : ∀ (i : Nat) (v : V), vs[i]? = some v → (start N vs)[i]? = some (some v) := fun i v h => by
    unfold L2.start
    have hi := (List.getElem?_eq_some_iff.mp h).1
    rw [List.getElem?_append_left (by simpa using hi), List.getElem?_map, h]
    rfl
  refine ⟨A.ext, Same.refl F, fun p o e => .inl e, fun p o e _ => e, fun p e => e, fun p l => ?_, ?_, fun i av h => ?_, fun i j ai aj p hij hi hj oi oj si sj => ?_⟩
  · obtain ⟨k, c, h1, h2⟩ := l
    obtain ⟨v, h3, _, h4⟩ := A.at_ k _ h1
    obtain ⟨_, q, h5, _, o, h6, _⟩ := h4 (by simp)
    rw [h2, h5] at h3
    cases h3
    show H p ≠ none
    rw [h6]
    exact fun z => by cases z
  · unfold initA L2.start
    rw [List.length_append, List.length_map, List.length_replicate, List.length_append, List.length_map, List.length_replicate, A.len]
  · have h1 := ga i av h
    obtain ⟨v, h2, h3, h4⟩ := A.at_ i av h1
    refine ⟨v, gv i v h2, ?_⟩
    obtain ⟨o, c⟩ := av
    cases o with
    | no => exact h3 rfl
    | own => exact absurd (h4 (by simp)).1 (by simp)
    | lent =>
      obtain ⟨_, p, rfl, h5, h6⟩ := h4 (by simp)
      exact ⟨p, rfl, h5, ⟨i, c, h1, h2⟩, h2, h6⟩
  · obtain ⟨v1, a1, _⟩ := A.at_ i ai (ga i ai hi)
    obtain ⟨v2, a2, _⟩ := A.at_ j aj (ga j aj hj)
    have b1 := gv i v1 a1
    have b2 := gv j v2 a2
    rw [si] at b1
    rw [sj] at b2
    cases b1
    cases b2
    exact A.dis i j ai aj p hij (ga i ai hi) (ga j aj hj) oi oj a1 a2
/-- what the body's ends must be, for a caller who wants Q -/
def endsOf (as : List AV) (Q : AV → List AV → Prop) (Qe : Exc → List AV → Prop) : EndsA where
  nx := fun a => ∃ as', outs as a = some as' ∧ Q ⟨.no, .non⟩ as'
  rt := fun r a => ∃ as', outs as a = some as' ∧ Q r as'
  bk := fun _ => False
  ct := fun _ => False
  ex := fun x a => ∃ as', outs as a = some as' ∧ Qe x as'
/-- .. where nothing is raised -/
def ends0 (as : List AV) (Q : AV → List AV → Prop) : EndsA where
  nx := fun a => onO (outs as a) fun as' => Q ⟨.no, .non⟩ as'
  rt := fun r a => onO (outs as a) fun as' => Q r as'
  bk := fun _ => False
  ct := fun _ => False
  ex := fun _ _ => False
theorem post_of {K : PySem.W.Frag} {F H F' H' : Hp} {vs : List V} {as as' : List AV} {σ : L2.St} {a : PSt} (A : ArgsOk K F H vs as) (R : Rel K ⟨F, H, LentAt vs as, vs⟩ F' H' σ a) (ho : outs as a = some as') : Post K F H vs as F' H' as' := by
  refine ⟨R.f0, R.ext, R.new, R.keep, R.dom, fun k c p h1 h2 => ?_⟩
  obtain ⟨c', q1, q2⟩ := outs_at ho h1
  obtain ⟨v, e1, b, e2, h3, _, h4, h5⟩ := R.sl k _ q2
  subst e2
  have h4' : vs[k]? = some (.ref b) := h4
  rw [h2] at h4'
  cases h4'
  exact ⟨c', q1, h3, h5⟩
section
variable {P : Program} {w : World} {K : PySem.W.Frag} {mg : Str → Option Value} {base : Heap}
/-- THE RULE for a def that lets no exception out -/
theorem ok_def {x qual : Str} {st : Stmt} {f : Addr} {fd : FuncData} {N ps : List Str} {k : Nat} {spec : Spec} {wb : WS} (F : Fun K x qual st f fd) (S : FnScope N ps (defScope st)) (har : ∀ as Q Qe, spec as Q Qe → as.length = ps.length)
    (hN : ps.length ≤ N.length)
    (hbody : ∀ (cdv : Value) (A : Around) (outer : List Env) (s : Shared) (H : Hp) (E : XK), Room k (A.deeper (envOfC qual (defScope st) s.heap.objs.size f cdv)) →
      ∃ t, SSs (cxOf CX0 P w K mg base N qual (defScope st) f cdv A outer s H E).nox W0 (defBody st) t wb)
    (pure : ∀ as Q Qe, spec as Q Qe → wb (ends0 as Q) (initA N.length as)) : FnOk P w K mg base CX0 (k + 1) f fd ps (spOf K spec) := by
  refine F.ok S (fun vs H Q E ⟨F0, as, Q0, Qe0, A, h, _⟩ => A.len.trans (har as _ _ h)) (fun cdv A outer s H vs Q E hr h => ?_)
  obtain ⟨F0, as, Q0, Qe0, AO, hs, hq, hx⟩ := h
  obtain ⟨t, hb⟩ := hbody cdv A outer s H E hr
  refine ⟨t, hb.1, hb.2 ⟨F0, H, LentAt vs as, vs⟩ F0 H _ _ _ _ (entry_rel AO (by rw [har as _ _ hs]; exact hN)) (pure as Q0 Qe0 hs) ⟨?_, ?_, ?_, ?_, ?_⟩⟩
  · intro σ F' H' a e R h
    obtain ⟨as', ho, h⟩ := onO_iff.mp h
    exact hq _ as' h .non F' H' (post_of AO R ho) Rep.non
  · rintro σ F' H' a e R h
    exact h
  · rintro σ F' H' a e R h
    exact h
  · intro σ F' H' a v r e R rr h
    obtain ⟨as', ho, h⟩ := onO_iff.mp h
    exact hq r as' h v F' H' (post_of AO R ho) rr
  · rintro σ x a cls dx F' H' e R xr h
    exact h
end
/-- the law's own promise -/
def lawSpec (n : Nat) : Spec := fun as Q _ => ∃ ns : List Int, as = [⟨.no, .rol (ns.map D.int)⟩] ∧ ns.length ≤ n ∧ ∀ as', Q ⟨.no, .bl true⟩ as'
theorem law_sp {K : PySem.W.Frag} {n : Nat} {H : Hp} {a : Addr} {ns : List Int} (hl : ns.length ≤ n) (hS : SqL K H a (ns.map V.int)) : spOf K (lawSpec n) [.ref a] H (fun v _ => v = .bl true) (fun _ _ _ => False) := by
  refine ⟨H, [⟨.no, .rol (ns.map D.int)⟩], fun r _ => r = ⟨.no, .bl true⟩, fun _ _ => False, ⟨Same.refl H, rfl, fun k av h => ?_, fun i j ai aj p hij h1 _ o1 => ?_⟩, ⟨ns, rfl, hl, fun _ => rfl⟩, fun r as' e v F' H' P ro => ?_, fun x as' z => z.elim⟩
  · cases k with
    | zero => simp at h; subst h; exact ⟨_, rfl, fun _ => .rol hS (reps_ints ns), fun z => absurd rfl z⟩
    | succ k => simp at h
  · cases i with
    | zero => simp at h1; subst h1; exact absurd rfl o1
    | succ k => simp at h1
  · subst e
    have r' : Rep K F' v (.bl true) := ro
    cases r'
    rfl
end DS

namespace DS
open PySem PySem.Spec PyProof.Rows L2
/-- a def of the top, where its name finds it -/
def FunAt (K : PySem.W.Frag) (mg : Str → Option Value) (x : Str) (st : Stmt) (ps : List Str) : Prop := ∃ f fd, Fun K x x st f fd ∧ mg x = some (.ref f) ∧ Binds K fd ps []
/-- .. and keeping its promise -/
def Cal (P : Program) (w : World) (K : PySem.W.Frag) (mg : Str → Option Value) (base : Heap) (k : Nat) (x : Str) (ps : List Str) (spec : Spec) : Prop :=
  ∃ f fd, FnOk P w K mg base CX0 k f fd ps (spOf K spec) ∧ mg x = some (.ref f) ∧ PySem.W.keepIn K (.ref f) = true ∧ Binds K fd ps []
theorem FunAt.cal {P : Program} {w : World} {K : PySem.W.Frag} {mg : Str → Option Value} {base : Heap} {k : Nat} {x : Str} {st : Stmt} {ps : List Str} {spec : Spec} (h : FunAt K mg x st ps)
    (g : ∀ f fd, Fun K x x st f fd → FnOk P w K mg base CX0 k f fd ps (spOf K spec)) : Cal P w K mg base k x ps spec := by
  obtain ⟨f, fd, F, m, b⟩ := h
  exact ⟨f, fd, g f fd F, m, F.kp, b⟩
theorem FunAt.none {P : Program} {w : World} {K : PySem.W.Frag} {mg : Str → Option Value} {base : Heap} {x : Str} {st : Stmt} {ps : List Str} {spec : DS.Spec} (h : FunAt K mg x st ps) (k : Nat) (e : spec = fun _ _ _ => False) : Cal P w K mg base k x ps spec := by
  obtain ⟨f, fd, F, m, b⟩ := h
  subst e
  exact ⟨f, fd, ⟨fun vs H Q E ⟨_, _, _, _, _, z, _⟩ => z.elim, fun A outer s H args us vs Q E _ _ _ _ ⟨_, _, _, _, _, z, _⟩ => z.elim⟩, m, F.kp, b⟩
end DS

namespace DS
open PySem PySem.Spec PyProof.Rows L2
theorem atI_of {α : Type} {xs : List α} {i : Int} {v : α} (h0 : 0 ≤ i) (h : xs[i.toNat]? = some v) : atI xs i = some v := by
  have hi : i = ((i.toNat : Nat) : Int) := by omega
  rw [hi]
  exact atI_nat h
theorem ixN_of {n : Nat} {i : Int} (h0 : 0 ≤ i) (h : i < n) : ixN n i = some i.toNat := by
  unfold ixN
  rw [if_pos h0, if_pos h]
/-- ints as data -/
abbrev Ds (ns : List Int) : List D := ns.map D.int
theorem ds_len (ns : List Int) : (Ds ns).length = ns.length := List.length_map ..
theorem ds_get {ns : List Int} {i : Nat} {x : Int} (h : ns[i]? = some x) : (Ds ns)[i]? = some (.int x) := by
  show (ns.map D.int)[i]? = _
  rw [List.getElem?_map, h]
  rfl
theorem ds_of {ns : List Int} {i : Nat} {d : D} (h : (Ds ns)[i]? = some d) : ∃ x, ns[i]? = some x ∧ d = .int x := by
  have h' : (ns.map D.int)[i]? = some d := h
  rw [List.getElem?_map] at h'
  cases e : ns[i]? with
  | none => rw [e] at h'; cases h'
  | some x => rw [e] at h'; exact ⟨x, rfl, (Option.some.inj h').symm⟩
theorem ds_app (ns ms : List Int) : Ds (ns ++ ms) = Ds ns ++ Ds ms := List.map_append ..
/-- reading a list of ints at a place -/
theorem at_int {ns : List Int} {i : Int} {f : D → Prop} (h0 : 0 ≤ i) (h1 : i < ns.length) (hf : f (.int (ns.getD i.toNat 0))) : onO (atI (Ds ns) i) f := by
  have hl : i.toNat < ns.length := by omega
  refine onO_of (atI_of h0 (ds_get (x := ns.getD i.toNat 0) ?_)) hf
  rw [List.getElem?_eq_getElem hl, List.getD_eq_getElem?_getD, List.getElem?_eq_getElem hl]
  rfl
theorem at_lst {ds : List D} {i : Int} {f : D → Prop} (h0 : 0 ≤ i) (h1 : i < ds.length) (hf : ∀ d, ds[i.toNat]? = some d → f d) : onO (atI ds i) f := by
  have hl : i.toNat < ds.length := by omega
  exact onO_of (atI_of h0 (List.getElem?_eq_getElem hl)) (hf _ (List.getElem?_eq_getElem hl))
theorem small {n : Nat} (h : n ≤ 16000000) : n ≤ sizeLine := by rw [sizeLine_eq]; omega
theorem smaller {n : Nat} (h : n < 16000000) : n < sizeLine := by rw [sizeLine_eq]; omega
theorem cmul_l {i j : Int} (h1 : -(2 ^ 64) < i) (h2 : i < 2 ^ 64) : CMul i j := .inl ⟨h1, h2⟩
theorem cmul_r {i j : Int} (h1 : -(2 ^ 64) < j) (h2 : j < 2 ^ 64) : CMul i j := .inr ⟨h1, h2⟩
/-- what is compared by _law_same: data of some depth -/
def Pl : Nat → D → Prop
  | _, .non => True
  | _, .bl _ => True
  | _, .int _ => True
  | _, .str _ => True
  | n + 1, .lst xs => xs.length ≤ 10000000 ∧ ∀ x ∈ xs, Pl n x
  | n + 1, .tup xs => xs.length ≤ 10000000 ∧ ∀ x ∈ xs, Pl n x
  | _, _ => False
theorem pl_ints (n : Nat) (ns : List Int) (h : ns.length ≤ 10000000) : Pl (n + 1) (.lst (Ds ns)) := ⟨by rw [ds_len]; exact h, fun x hx => by
  obtain ⟨i, _, rfl⟩ := List.mem_map.mp hx
  cases n <;> trivial⟩
theorem pl_int (n : Nat) (i : Int) : Pl n (.int i) := by cases n <;> trivial
theorem pl_str (n : Nat) (i : Str) : Pl n (.str i) := by cases n <;> trivial
theorem pl_bl (n : Nat) (i : Bool) : Pl n (.bl i) := by cases n <;> trivial
theorem pl_non (n : Nat) : Pl n .non := by cases n <;> trivial
theorem drop_map (ns : List Int) (k : Nat) : (Ds ns).drop k = Ds (ns.drop k) := by
  show (ns.map D.int).drop k = (ns.drop k).map D.int
  rw [List.map_drop]
theorem cut_from (ns : List Int) (k : Nat) : cutDs (Ds ns) (some (k : Int)) none = Ds (ns.drop k) := by
  unfold cutDs
  rw [HT.sIx_nat, HT.sIx_none, ds_len]
  by_cases h : k ≤ ns.length
  · rw [Nat.min_eq_left h, drop_map]
    exact List.take_of_length_le (by rw [ds_len, List.length_drop]; omega)
  · rw [Nat.min_eq_right (by omega), Nat.sub_self, List.take_zero, List.drop_eq_nil_of_le (by omega)]
    rfl
theorem cut_fromI (ns : List Int) {i : Int} (h : 0 ≤ i) : cutDs (Ds ns) (some i) none = Ds (ns.drop i.toNat) := by
  have := cut_from ns i.toNat
  rwa [Int.toNat_of_nonneg h] at this
/-- on to what stands behind -/
theorem wNext_i {D : EndsA} {a : PSt} (h : D.nx a) : wNext D a := h
end DS

namespace DS
open PySem PySem.Spec PyProof.Rows L2
/-! ### further walks: steps, signs, from behind, numbered -/
def rangeC (lo c : Int) (n : Nat) : List D := (List.range n).map fun (i : Nat) => D.int (lo + (i : Int) * c)
theorem rangeC_len {lo c : Int} {n : Nat} : (rangeC lo c n).length = n := by simp [rangeC]
theorem rangeC_get {lo c : Int} {n i : Nat} {d : D} : (rangeC lo c n)[i]? = some d ↔ i < n ∧ d = .int (lo + (i : Int) * c) := by
  unfold rangeC
  rw [List.getElem?_map]
  by_cases h : i < n
  · rw [List.getElem?_range h]
    simp [h, eq_comm]
  · rw [List.getElem?_eq_none (by simpa using h)]
    simp [h]
theorem itc_ok {K : PySem.W.Frag} {F1 : Hp} {lo c : Int} {n : Nat} : ItR K F1 (Itc lo c n) (rangeC lo c n) where
  go := fun i E σ a F H e R hi => by
    have h : i < n := by rw [rangeC_len] at hi; exact hi
    exact h
  stop := fun E σ a F H e R => by
    show n ≤ _
    rw [rangeC_len]
    exact Nat.le_refl _
  yld := fun i E σ a F H x H' e R hi y => by
    obtain ⟨rfl, rfl⟩ := y
    exact ⟨F, .int (lo + (i : Int) * c), Same.refl F, R, rangeC_get.mpr ⟨by rw [rangeC_len] at hi; exact hi, rfl⟩, .int _⟩
theorem its_ok {K : PySem.W.Frag} {F1 : Hp} {x : Str} : ItR K F1 (Its x) (signsD x) where
  go := fun i E σ a F H e R hi => by
    have h : i < x.cps.size := by simpa [signsD] using hi
    exact h
  stop := fun E σ a F H e R => by
    show x.cps.size ≤ _
    simp [signsD]
  yld := fun i E σ a F H v H' e R hi y => by
    obtain ⟨rfl, c, hc, rfl⟩ := y
    refine ⟨F, .str ⟨#[c]⟩, Same.refl F, R, ?_, .str _⟩
    unfold signsD
    rw [List.getElem?_map, Array.getElem?_toList, hc]
    rfl
theorem itv_ok {K : PySem.W.Frag} {F1 : Hp} {p : Addr} {vs : List V} {ds : List D} (hs : SqL K F1 p vs) (r : Reps K F1 vs ds) : ItR K F1 (Itv K p vs.length) ds.reverse where
  go := fun i E σ a F H e R hi => by
    have hl : i < vs.length := by rw [r.length]; simpa using hi
    exact ⟨hl, vs, vs[vs.length - 1 - i], R.ext.seq (e.seq hs), List.getElem?_eq_getElem (by omega)⟩
  stop := fun E σ a F H e R => by
    show vs.length ≤ _
    rw [List.length_reverse, r.length]
    exact Nat.le_refl _
  yld := fun i E σ a F H x H' e R hi y => by
    obtain ⟨rfl, y⟩ := y
    obtain ⟨d, h1, h2⟩ := r.get (y vs (R.ext.seq (e.seq hs)))
    have hl : i < ds.length := by simpa using hi
    refine ⟨F, d, Same.refl F, R, ?_, h2.mono e⟩
    rw [List.getElem?_reverse hl, ← r.length]
    exact h1
/-- the items with their numbers -/
def numD (xs : List D) : List D := xs.mapIdx fun i d => .tup [.int (i : Int), d]
theorem numD_get {xs : List D} {i : Nat} {d : D} (h : xs[i]? = some d) : (numD xs)[i]? = some (.tup [.int (i : Int), d]) := by
  unfold numD
  rw [List.getElem?_mapIdx, h]
  rfl
theorem numD_len {xs : List D} : (numD xs).length = xs.length := by simp [numD]
theorem ite_ok {K : PySem.W.Frag} {F1 : Hp} {p : Addr} {vs : List V} {ds : List D} (hs : SqL K F1 p vs) (r : Reps K F1 vs ds) : ItR K F1 (Ite K p) (numD ds) where
  go := fun i E σ a F H e R hi => by
    have hl : i < vs.length := by rw [r.length, ← numD_len]; exact hi
    exact ⟨vs, vs[i], R.ext.seq (e.seq hs), List.getElem?_eq_getElem hl⟩
  stop := fun E σ a F H e R => ⟨vs, R.ext.seq (e.seq hs), by rw [numD_len, r.length]; exact Nat.le_refl _⟩
  yld := fun i E σ a F H x H' e R hi y => by
    obtain ⟨T, z, rfl, hT, rfl, y⟩ := y
    obtain ⟨d, h1, h2⟩ := r.get (y vs (R.ext.seq (e.seq hs)))
    obtain ⟨s, R2⟩ := R.layF (.tup [.int (i : Nat), z]) hT
    refine ⟨_, .tup [.int (i : Int), d], s, R2, numD_get h1, .tup (upd_same) (.cons (.int _) (.cons ((h2.mono e).mono s) .nil))⟩
section
variable {X : Cx} {W : L2.St → XK} {tg l e a b c : Expr} {pos : Pos} {ta tb tl te : TE} {la : TA} {w : WE} {ws : WA} {iter : Expr} {ti : TI} {wi : WI}
def on3 (o : Option (List D)) (f : Int → Int → Int → Prop) : Prop := match o with
  | some [.int i, .int j, .int k] => f i j k
  | _ => False
theorem on3_iff {o : Option (List D)} {f : Int → Int → Int → Prop} : on3 o f ↔ ∃ i j k, o = some [.int i, .int j, .int k] ∧ f i j k := by
  constructor
  · intro h
    unfold on3 at h
    split at h
    · exact ⟨_, _, _, rfl, h⟩
    · exact h.elim
  · rintro ⟨i, j, k, rfl, h⟩
    exact h
theorem conts3 {a1 : PSt} {rs : List Res} {i j k : Int} {K : PySem.W.Frag} {E : En} {F H : Hp} {σ : L2.St} {vs : List V} (R : Rel K E F H σ a1) (rps : RepRs K E F H σ a1 vs rs) (c : conts a1 rs = some [.int i, .int j, .int k]) : vs = [.int i, .int j, .int k] := by
  have := conts_rd R rps c
  cases this with
  | cons h t => cases t with
    | cons h' t => cases t with
      | cons h'' t => cases t; rw [h.int, h'.int, h''.int]
def wiRng3 (ws : WA) : WI := fun a q qe => ws a (fun rs a1 => on3 (conts a1 rs) fun i j c => ∃ n, RgC i j c n ∧ q (rangeC i c n) a1) qe
theorem si_range3 {p : Pos} (hg : Gl X "range") (hm : X.mg "range" = none) (ha : SA X W [a, b, c] la ws)
    (hs : starEach [a, b, c] X.env = (false, eval a X.env) :: starEach [b, c] X.env := by rfl) (hpl : (backTo pos (starEach [b, c] X.env)).any (·.1) = false := by rfl) :
    SI X W tg (.Call (.Name "range" p) [a, b, c] [] pos) (iRng3 la) (wiRng3 ws) := by
  refine ⟨pi_range3 hg hm ha.1 hs hpl, fun E F H σ a R q qe Rl hw lk lx => ha.2 E F H σ a _ _ _ Rl hw (fun vs rs F' H' a' e R' rps hn hq => ?_) lx⟩
  obtain ⟨i, j, k, c, n, h1, hk⟩ := on3_iff.mp hq
  exact ⟨i, j, k, n, conts3 R' rps c, h1, lk _ _ F' H' a' e R' itc_ok hk⟩
/-- a step range whose size is told -/
theorem rgC_up {i j c : Int} (h1 : 0 < c) (h2 : c < 1000000000) (hi : -(2 ^ 60) ≤ i) (hi' : i < 2 ^ 60) (hj : -(2 ^ 60) ≤ j) (hj' : j < 2 ^ 60) : RgC i j c (if i < j then ((j - i - 1) / c + 1).toNat else 0) := by
  have hq : i < j → 0 ≤ (j - i - 1) / c ∧ (j - i - 1) / c ≤ j - i - 1 := fun h => ⟨Int.ediv_nonneg (by omega) (by omega), Int.ediv_le_self _ (by omega)⟩
  have e : Builtin.Range.rangeSize i j c = ((if i < j then ((j - i - 1) / c + 1).toNat else 0 : Nat) : Int) := by
    unfold Builtin.Range.rangeSize
    rw [if_pos h1]
    by_cases h : i < j
    · rw [if_pos h, if_pos h]
      have := hq h
      omega
    · rw [if_neg h, if_neg h]
      rfl
  refine ⟨by omega, by omega, ?_, e⟩
  unfold Builtin.Range.small
  rw [e]
  simp only [Builtin.Range.rangeFitsLong, Bool.and_eq_true, Bool.or_eq_true, decide_eq_true_eq, beq_iff_eq, show c > 0 from h1, if_true]
  by_cases h : i < j
  · have := hq h
    rw [if_pos h]
    omega
  · rw [if_neg h]
    omega
def wiStr (w : WE) : WI := fun a q qe => w a (fun r a1 => fz r a1 fun d a2 => match d with | .str x => q (signsD x) a2 | _ => False) qe
theorem si_str (h : SE X W l tl w) : SI X W tg l (iStr tl) (wiStr w) := by
  refine ⟨pi_str h.1, fun E F H σ a R q qe Rl hw lk lx => h.2 E F H σ a _ _ _ Rl hw (fun v r F' H' a' e R' rp hq => ?_) lx⟩
  obtain ⟨F2, a2, d, s, R2, rp2, hk⟩ := fz_ok R' rp hq
  cases d with
  | str x =>
    cases rp2
    exact ⟨x, rfl, lk _ _ F2 H' a2 (e.trans s) R2 its_ok hk⟩
  | _ => exact hk.elim
end
end DS
namespace DS
open PySem PySem.Spec PyProof.Rows L2
/-! ### equal data -/
/-- data of numbers and texts, of some depth -/
def Nb : Nat → D → Prop
  | _, .non => True
  | _, .int _ => True
  | _, .str x => PyData.strOk x = true
  | n + 1, .lst xs => ∀ x ∈ xs, Nb n x
  | n + 1, .tup xs => ∀ x ∈ xs, Nb n x
  | _, _ => False
theorem pyds_some {n : Nat} {xs : List D} (h : ∀ x ∈ xs, ∃ p, pyd x = some p ∧ p.canLay0 = true ∧ p.depth ≤ n) : ∃ ps, pyds xs = some ps ∧ PyData.canLayAll0 ps = true ∧ PyData.depthAll ps ≤ n := by
  induction xs with
  | nil => exact ⟨[], rfl, by rw [PyData.canLayAll0], by rw [PyData.depthAll]; exact Nat.zero_le _⟩
  | cons x xs ih =>
    obtain ⟨p, e1, c1, d1⟩ := h x (List.mem_cons_self ..)
    obtain ⟨ps, e2, c2, d2⟩ := ih fun y hy => h y (List.mem_cons_of_mem _ hy)
    refine ⟨p :: ps, ?_, ?_, ?_⟩
    · rw [pyds, e1, e2]
    · rw [PyData.canLayAll0, c1, c2]; rfl
    · rw [PyData.depthAll]; exact Nat.max_le.mpr ⟨d1, d2⟩
theorem nb_pyd : ∀ (n : Nat) (d : D), Nb n d → ∃ p, pyd d = some p ∧ p.canLay0 = true ∧ p.depth ≤ n
  | n, .non, _ => ⟨.none, by rw [pyd], by rw [PyData.canLay0], by rw [PyData.depth]; exact Nat.zero_le _⟩
  | n, .int i, _ => ⟨.int i, by rw [pyd], by rw [PyData.canLay0], by rw [PyData.depth]; exact Nat.zero_le _⟩
  | n, .str i, h => ⟨.str i, by rw [pyd], by rw [PyData.canLay0]; cases n <;> exact h, by rw [PyData.depth]; exact Nat.zero_le _⟩
  | n + 1, .lst xs, h => by
    obtain ⟨ps, e, c, d⟩ := pyds_some (n := n) fun x hx => nb_pyd n x (h x hx)
    exact ⟨.list ps, by rw [pyd, e]; rfl, by rw [PyData.canLay0]; exact c, by rw [PyData.depth]; omega⟩
  | n + 1, .tup xs, h => by
    obtain ⟨ps, e, c, d⟩ := pyds_some (n := n) fun x hx => nb_pyd n x (h x hx)
    exact ⟨.tuple ps, by rw [pyd, e]; rfl, by rw [PyData.canLay0]; exact c, by rw [PyData.depth]; omega⟩
  | 0, .lst _, h => h.elim
  | 0, .tup _, h => h.elim
  | n, .bl _, h => by cases n <;> exact h.elim
  | n, .rol _, h => by cases n <;> exact h.elim
  | n, .rot _, h => by cases n <;> exact h.elim
  | n, .dK _, h => by cases n <;> exact h.elim
  | n, .dT _, h => by cases n <;> exact h.elim
  | n, .lK _, h => by cases n <;> exact h.elim
  | n, .lT _, h => by cases n <;> exact h.elim
  | n, .ins _ _, h => by cases n <;> exact h.elim
  | n, .exc _ _ _ _, h => by cases n <;> exact h.elim
  | n, .ty _, h => by cases n <;> exact h.elim
  | n, .adr _, h => by cases n <;> exact h.elim
theorem eqvs_nb {n : Nat} (ih : ∀ x y : D, Nb n x → Nb n y → ∀ p q, pyd x = some p → pyd y = some q → (PyData.eqv p q = true ↔ x = y)) : ∀ (xs ys : List D) (ps qs : List PyData), (∀ x ∈ xs, Nb n x) → (∀ y ∈ ys, Nb n y) → pyds xs = some ps → pyds ys = some qs → (PyData.eqvAll ps qs = true ↔ xs = ys)
  | [], [], ps, qs, _, _, e1, e2 => by cases e1; cases e2; simp [PyData.eqvAll]
  | [], y :: ys, ps, qs, _, _, e1, e2 => by
    cases e1
    obtain ⟨p, q, rfl, _, _⟩ := pyds_cons e2
    simp [PyData.eqvAll]
  | x :: xs, [], ps, qs, _, _, e1, e2 => by
    cases e2
    obtain ⟨p, q, rfl, _, _⟩ := pyds_cons e1
    simp [PyData.eqvAll]
  | x :: xs, y :: ys, ps, qs, h1, h2, e1, e2 => by
    obtain ⟨p, ps, rfl, a1, b1⟩ := pyds_cons e1
    obtain ⟨q, qs, rfl, a2, b2⟩ := pyds_cons e2
    rw [PyData.eqvAll, Bool.and_eq_true, ih x y (h1 x (List.mem_cons_self ..)) (h2 y (List.mem_cons_self ..)) p q a1 a2,
      eqvs_nb ih xs ys ps qs (fun z hz => h1 z (List.mem_cons_of_mem _ hz)) (fun z hz => h2 z (List.mem_cons_of_mem _ hz)) b1 b2, List.cons.injEq]
theorem nb_eqv : ∀ (n : Nat) (x y : D), Nb n x → Nb n y → ∀ p q, pyd x = some p → pyd y = some q → (PyData.eqv p q = true ↔ x = y) := by
  intro n
  induction n with
  | zero =>
    intro x y hx hy p q e1 e2
    cases x <;> cases y <;> first
      | exact hx.elim
      | exact hy.elim
      | (simp only [pyd] at e1 e2; cases e1; cases e2; simp [PyData.eqv])
  | succ n ih =>
    intro x y hx hy p q e1 e2
    cases x <;> cases y <;> first
      | exact hx.elim
      | exact hy.elim
      | (simp only [pyd] at e1 e2; cases e1; cases e2; simp [PyData.eqv]; done)
      | (simp only [pyd, Option.map_eq_some_iff] at e1 e2
         obtain ⟨ps, e1, rfl⟩ := e1
         obtain ⟨qs, e2, rfl⟩ := e2
         have := eqvs_nb ih _ _ _ _ hx hy e1 e2
         simp only [PyData.eqv, this, D.lst.injEq, D.tup.injEq, reduceCtorEq, Bool.false_eq_true])
      | (simp only [pyd, Option.map_eq_some_iff] at e1 e2
         obtain ⟨ps, e1, rfl⟩ := e1
         obtain ⟨qs, e2, rfl⟩ := e2
         simp [PyData.eqv]; done)
      | (simp only [pyd, Option.map_eq_some_iff] at e1 e2
         obtain ⟨ps, e1, rfl⟩ := e1
         cases e2
         simp [PyData.eqv]; done)
      | (simp only [pyd, Option.map_eq_some_iff] at e1 e2
         obtain ⟨ps, e2, rfl⟩ := e2
         cases e1
         simp [PyData.eqv]; done)
/-- == over data of numbers and texts -/
theorem eq_nb {n : Nat} {x y : D} {k : Bool → Prop} (hx : Nb n x) (hy : Nb n y) (hn : n ≤ 64) (h1 : x = y → k true) (h2 : x ≠ y → k false) : eqH x y k := by
  obtain ⟨p, e1, c1, d1⟩ := nb_pyd n x hx
  obtain ⟨q, e2, c2, d2⟩ := nb_pyd n y hy
  have he := nb_eqv n x y hx hy p q e1 e2
  have hk : k (PyData.eqv p q) := by
    by_cases h : x = y
    · rw [he.mpr h]; exact h1 h
    · have : PyData.eqv p q = false := by
        cases hb : PyData.eqv p q
        · rfl
        · exact absurd (he.mp hb) h
      rw [this]; exact h2 h
  have s1 : SeqAt.shaped p = true := by unfold SeqAt.shaped; rw [c1, decide_eq_true (by omega)]; rfl
  have s2 : SeqAt.shaped q = true := by unfold SeqAt.shaped; rw [c2, decide_eq_true (by omega)]; rfl
  unfold eqH
  exact .inr ⟨p, q, e1, e2, s1, s2, hk⟩
theorem nb_int (n : Nat) (i : Int) : Nb n (.int i) := by cases n <;> trivial
theorem nb_ints (n : Nat) (ns : List Int) : Nb (n + 1) (.lst (Ds ns)) := fun x hx => by
  obtain ⟨i, _, rfl⟩ := List.mem_map.mp hx
  exact nb_int n i
theorem ds_inj {xs ys : List Int} (h : D.lst (Ds xs) = D.lst (Ds ys)) : xs = ys := by
  have h := D.lst.inj h
  exact (List.map_inj_right fun a b e => D.int.inj e).mp h
/-- == over lists of ints -/
theorem eq_ints {xs ys : List Int} {k : Bool → Prop} (h1 : xs = ys → k true) (h2 : xs ≠ ys → k false) : eqH (.lst (Ds xs)) (.lst (Ds ys)) k :=
  eq_nb (nb_ints 0 xs) (nb_ints 0 ys) (by decide) (fun h => h1 (ds_inj h)) (fun h => h2 fun z => h (by rw [z]))
theorem cut_midD (ds : List D) {a b : Int} (ha : 0 ≤ a) (hb : 0 ≤ b) : cutDs ds (some a) (some b) = (ds.drop a.toNat).take (b.toNat - a.toNat) := by
  obtain ⟨i, rfl⟩ : ∃ i : Nat, a = (i : Int) := ⟨a.toNat, by omega⟩
  obtain ⟨j, rfl⟩ : ∃ j : Nat, b = (j : Int) := ⟨b.toNat, by omega⟩
  unfold cutDs
  rw [HT.sIx_nat, HT.sIx_nat]
  show _ = (ds.drop i).take (j - i)
  by_cases h : i ≤ ds.length
  · rw [Nat.min_eq_left h]
    by_cases h2 : j ≤ ds.length
    · rw [Nat.min_eq_left h2]
    · rw [Nat.min_eq_right (by omega), List.take_of_length_le (by rw [List.length_drop]; omega), List.take_of_length_le (by rw [List.length_drop]; omega)]
  · have h' : ds.length ≤ i := by omega
    rw [Nat.min_eq_right h', List.drop_eq_nil_of_le h', List.drop_eq_nil_of_le (Nat.le_refl _)]
    simp
theorem cut_upD (ds : List D) {b : Int} (hb : 0 ≤ b) : cutDs ds none (some b) = ds.take b.toNat := by
  obtain ⟨j, rfl⟩ : ∃ j : Nat, b = (j : Int) := ⟨b.toNat, by omega⟩
  unfold cutDs
  rw [HT.sIx_none, HT.sIx_nat]
  show (ds.drop 0).take (min j ds.length - 0) = ds.take j
  rw [List.drop_zero, Nat.sub_zero]
  by_cases h2 : j ≤ ds.length
  · rw [Nat.min_eq_left h2]
  · rw [Nat.min_eq_right (by omega), List.take_of_length_le (by omega), List.take_of_length_le (by omega)]
theorem cut_mid (ns : List Int) {a b : Int} (ha : 0 ≤ a) (hb : 0 ≤ b) : cutDs (Ds ns) (some a) (some b) = Ds ((ns.drop a.toNat).take (b.toNat - a.toNat)) := by
  rw [cut_midD _ ha hb, drop_map, ← List.map_take]
theorem cut_up (ns : List Int) {b : Int} (hb : 0 ≤ b) : cutDs (Ds ns) none (some b) = Ds (ns.take b.toNat) := by
  rw [cut_upD _ hb, ← List.map_take]
theorem rep_ints (n : Nat) (c : Int) : (List.replicate n [D.int c]).flatten = Ds (List.replicate n c) := by
  induction n with
  | zero => rfl
  | succ n ih => rw [List.replicate_succ, List.flatten_cons, ih, List.replicate_succ]; rfl
/-! ### over a list that is lent: it stays what it is, turn by turn -/
@[irreducible] def forL (k : Nat) (items : List D) (wg : WG) (wb : WS) (D : EndsA) (a : PSt) : Prop := ∃ Inv : Nat → PSt → Prop, Inv 0 a ∧ (∀ i a2, Inv i a2 → a2[k]? = some (some ⟨.lent, .lst items⟩)) ∧
  (∀ i a2 d, items[i]? = some d → Inv i a2 → wg d a2 fun a3 => wb { D with nx := Inv (i + 1), ct := Inv (i + 1), bk := D.nx } a3) ∧ ∀ a2, Inv items.length a2 → D.nx a2
theorem for_l {k : Nat} {items : List D} {wg : WG} {wb : WS} {D : EndsA} {a : PSt} (Inv : Nat → PSt → Prop) (h0 : Inv 0 a) (hk : ∀ i a2, Inv i a2 → a2[k]? = some (some ⟨.lent, .lst items⟩))
    (hs : ∀ i a2 d, items[i]? = some d → Inv i a2 → wg d a2 fun a3 => wb { D with nx := Inv (i + 1), ct := Inv (i + 1), bk := D.nx } a3) (he : ∀ a2, Inv items.length a2 → D.nx a2) : forL k items wg wb D a := by unfold forL; exact ⟨Inv, h0, hk, hs, he⟩
def lentAt (a : PSt) (k : Nat) : Option (List D) := match a[k]? with
  | some (some ⟨.lent, .lst xs⟩) => some xs
  | _ => none
theorem lentAt_some {a : PSt} {k : Nat} {xs : List D} (h : lentAt a k = some xs) : a[k]? = some (some ⟨.lent, .lst xs⟩) := by
  unfold lentAt at h
  split at h
  · cases h; assumption
  · cases h
def wForN (k : Nat) (wg : WG) (wb : WS) : WS := fun D a => match lentAt a k with
  | some items => forL k items wg wb D a
  | none => wFor (wiSeq (wVar k)) wg wb D a
theorem ss_forN {X : Cx} {W : L2.St → XK} {tg e : Expr} {k : Nat} {g : TG} {wg : WG} {sl : List Nat} {tb' : TS} {wb : WS} {pos : Pos} {body : List Stmt} (hp : PassesOwn (model X.prog X.w) X.A X.env X.xe) (hc : X.calm = true) (he : PE X e (tVar k)) (hg : SG X tg g wg sl) (hb : SSs X W body tb' wb) (hs : ∀ x, foldedSetIterable e X.env x = pure x := by intro _; rfl) :
    SS X W (.For tg e body [] pos) (tFor (iList X.K (tVar k)) g tb') (wForN k wg wb) := by
  refine ⟨ps_for hp hc (pi_list he) hg.1 hb.1 hs, fun E F H σ a D DA R hw l => ?_⟩
  unfold wForN at hw
  split at hw
  · rename_i items hl
    have hl := lentAt_some hl
    unfold forL at hw
    obtain ⟨Inv, h0, hk, hst, hend⟩ := hw
    obtain ⟨v, hσ, p, rfl, hF, hL, hv, hT⟩ := R.sl k _ hl
    have seq : ∀ {F2 H2 : Hp} {σ2 : L2.St} {a2 : PSt}, Rel X.K E F2 H2 σ2 a2 → a2[k]? = some (some ⟨.lent, .lst items⟩) → ∃ vs, H2 p = some (.lst vs) ∧ Reps X.K F2 vs items := by
      intro F2 H2 σ2 a2 R2 h2
      obtain ⟨v2, _, p2, rfl, _, _, hv2, o, ho, t⟩ := R2.sl k _ h2
      have e : p2 = p := by rw [hv] at hv2; cases hv2; rfl
      subst e
      cases t with
      | lst r => exact ⟨_, ho, r⟩
    obtain ⟨vs, hp1, _⟩ := seq R hl
    refine ⟨.ref p, hσ, p, rfl, ⟨vs, SqL.of hp1⟩, ?_⟩
    refine ⟨fun i m σ' H' => m = items.length - i ∧ i ≤ items.length ∧ ∃ F2 a2, Same F F2 ∧ Rel X.K E F2 H' σ' a2 ∧ Inv i a2, ⟨_, rfl, Nat.zero_le _, F, a, Same.refl F, R, h0⟩, ?_⟩
    rintro i m σ' H' ⟨rfl, hi', F2, a2, s2, R2, hinv⟩
    obtain ⟨vs, hp2, rp2⟩ := seq R2 (hk i a2 hinv)
    by_cases hlt : i < items.length
    · have hlv : i < vs.length := by rw [rp2.length]; exact hlt
      refine .inr ⟨⟨vs, vs[i], SqL.of hp2, List.getElem?_eq_getElem hlv⟩, fun σ3 H3 => ∃ F3 a3, Same F F3 ∧ Rel X.K E F3 H3 σ3 a3 ∧ Inv (i + 1) a3, fun σ3 H3 ⟨F3, a3, s3, R3, h3⟩ => ⟨items.length - (i + 1), by omega, rfl, hlt, F3, a3, s3, R3, h3⟩, fun x H3 y => ?_⟩
      obtain ⟨rfl, y⟩ := y
      obtain ⟨d, hd, rp⟩ := rp2.get (y vs (SqL.of hp2))
      refine hg.2 E F2 _ σ' a2 x d _ _ R2 rp (hst i a2 d hd hinv) fun σ4 a4 _ R4 hq4 => hb.2 E F2 _ σ4 a4 _ _ R4 hq4 ⟨fun σ5 F5 H5 a5 e5 R5 q5 => ?_, fun σ5 F5 H5 a5 e5 R5 q5 => ?_, fun σ5 F5 H5 a5 e5 R5 q5 => ?_, fun σ5 F5 H5 a5 v r e5 => ?_, fun σ5 => ?_⟩
      · exact ⟨F5, a5, s2.trans e5, R5, q5⟩
      · exact l.nx σ5 F5 H5 a5 (s2.trans e5) R5 q5
      · exact ⟨F5, a5, s2.trans e5, R5, q5⟩
      · exact l.rt σ5 F5 H5 a5 v r (s2.trans e5)
      · exact (l.ex σ5).to (s2)
    · have e : i = items.length := by omega
      subst e
      exact .inl ⟨⟨vs, SqL.of hp2, by rw [rp2.length]; exact Nat.le_refl _⟩, l.nx σ' F2 H' a2 s2 R2 (hend a2 hinv)⟩
  · exact (ss_for (pos := pos) hp hc (si_list (se_var he)) hg hb hs).2 E F H σ a D DA R hw l
theorem ds_set (ns : List Int) (k : Nat) (i : Int) : (Ds ns).set k (D.int i) = Ds (ns.set k i) := (List.map_set ..).symm
end DS

namespace DS
open PySem PySem.Spec PyProof.Rows L2
/-! ### dicts -/
section
variable {κ α : Type} [DecidableEq κ]
def valD (kvs : List (κ × α)) (k : κ) : Option α := (kvs.find? fun kv => decide (kv.1 = k)).map (·.2)
def putD (kvs : List (κ × α)) (k : κ) (v : α) : List (κ × α) := if (kvs.any fun kv => decide (kv.1 = k)) = true then kvs.map (fun kv => if kv.1 = k then (kv.1, v) else kv) else kvs ++ [(k, v)]
theorem valD_nil {k : κ} : valD ([] : List (κ × α)) k = none := rfl
theorem valD_cons {p : κ × α} {r : List (κ × α)} {k : κ} : valD (p :: r) k = if p.1 = k then some p.2 else valD r k := by
  by_cases e : p.1 = k
  · rw [if_pos e]; simp [valD, List.find?_cons, e]
  · rw [if_neg e]; simp [valD, List.find?_cons, e]
theorem valD_any (k : κ) : ∀ kvs : List (κ × α), (kvs.any fun kv => decide (kv.1 = k)) = (valD kvs k).isSome
  | [] => rfl
  | p :: r => by
    rw [List.any_cons, valD_cons, valD_any k r]
    by_cases e : p.1 = k
    · rw [if_pos e, decide_eq_true e]; rfl
    · rw [if_neg e, decide_eq_false e]; rfl
theorem valD_app (k : κ) (v : α) (j : κ) : ∀ kvs : List (κ × α), valD kvs k = none → valD (kvs ++ [(k, v)]) j = if j = k then some v else valD kvs j
  | [], _ => by
    rw [List.nil_append, valD_cons, valD_nil]
    by_cases e : k = j
    · rw [if_pos e, if_pos e.symm]
    · rw [if_neg e, if_neg fun z => e z.symm]
  | p :: r, hn => by
    rw [valD_cons] at hn
    by_cases e : p.1 = k
    · rw [if_pos e] at hn; cases hn
    · rw [if_neg e] at hn
      rw [List.cons_append, valD_cons, valD_cons, valD_app k v j r hn]
      by_cases e2 : p.1 = j
      · rw [if_pos e2, if_pos e2, if_neg fun z => e (e2.trans z)]
      · rw [if_neg e2, if_neg e2]
theorem valD_map (k j : κ) (y : α) : ∀ kvs : List (κ × α), valD (kvs.map fun kv => if kv.1 = k then (kv.1, y) else kv) j = if j = k then (valD kvs j).map fun _ => y else valD kvs j
  | [] => by simp [valD_nil]
  | p :: r => by
    have ih := valD_map k j y r
    rw [List.map_cons, valD_cons, valD_cons, ih]
    by_cases h : p.1 = k
    · by_cases e : p.1 = j
      · have hj : j = k := e.symm.trans h
        simp [h, hj]
      · have hj : ¬ k = j := fun z => e (h.trans z)
        have hj2 : ¬ j = k := fun z => hj z.symm
        simp [h, hj, hj2]
    · by_cases e : p.1 = j
      · have hj : ¬ j = k := fun z => h (e.trans z)
        simp [e, hj]
      · simp [h, e]
theorem valD_put (kvs : List (κ × α)) (k : κ) (v : α) (j : κ) : valD (putD kvs k v) j = if j = k then some v else valD kvs j := by
  unfold putD
  rw [valD_any]
  by_cases h : (valD kvs k).isSome = true
  · rw [if_pos h, valD_map]
    by_cases e : j = k
    · subst e
      rw [if_pos rfl, if_pos rfl]
      cases hv : valD kvs j with
      | none => rw [hv] at h; cases h
      | some x => rfl
    · rw [if_neg e, if_neg e]
  · rw [if_neg h]
    exact valD_app k v j kvs (by cases hv : valD kvs k with | none => rfl | some x => rw [hv] at h; exact absurd rfl h)
theorem putD_len (kvs : List (κ × α)) (k : κ) (v : α) : (putD kvs k v).length ≤ kvs.length + 1 := by
  unfold putD
  split
  · rw [List.length_map]; omega
  · rw [List.length_append]; simp
end
section
variable {K : PySem.W.Frag} {E : En} {F F' H H' : Hp} {σ : L2.St} {a : PSt}
theorem RepA.val {κ : Type} [DecidableEq κ] (k : κ) : ∀ (ds : List (κ × D)) (vs : List (κ × V)), RepA K F vs ds → (∀ d, valD ds k = some d → ∃ v, valV vs k = some v ∧ Rep K F v d) ∧ (valD ds k = none → valV vs k = none)
  | [], vs, r => by
    cases r
    exact ⟨fun d h => (by rw [valD_nil] at h; cases h), fun _ => rfl⟩
  | p :: ds, vs, r => by
    cases r with
    | @cons _ k' v vs d ds h t =>
      obtain ⟨a, b⟩ := RepA.val k ds _ t
      by_cases e : k' = k
      · refine ⟨fun d' hd => ?_, fun hd => ?_⟩
        · rw [valD_cons, if_pos e] at hd
          cases hd
          exact ⟨v, valV_pos (p := (k', v)) e, h⟩
        · rw [valD_cons, if_pos e] at hd
          cases hd
      · refine ⟨fun d' hd => ?_, fun hd => ?_⟩
        · rw [valD_cons, if_neg e] at hd
          obtain ⟨u, hu, ru⟩ := a d' hd
          exact ⟨u, by rw [valV_neg (p := (k', v)) e]; exact hu, ru⟩
        · rw [valD_cons, if_neg e] at hd
          rw [valV_neg (p := (k', v)) e]
          exact b hd
theorem RepA.len {κ : Type} : ∀ (ds : List (κ × D)) (vs : List (κ × V)), RepA K F vs ds → vs.length = ds.length
  | [], vs, r => by cases r; rfl
  | p :: ds, vs, r => by
    cases r with
    | @cons _ k' v vs d ds h t => rw [List.length_cons, List.length_cons, RepA.len ds _ t]
theorem RepA.any {κ : Type} [DecidableEq κ] (k : κ) : ∀ (ds : List (κ × D)) (vs : List (κ × V)), RepA K F vs ds → (vs.any fun kv => decide (kv.1 = k)) = (ds.any fun kv => decide (kv.1 = k))
  | [], vs, r => by cases r; rfl
  | p :: ds, vs, r => by
    cases r with
    | @cons _ k' v vs d ds h t => rw [List.any_cons, List.any_cons, RepA.any k ds _ t]
theorem RepA.snoc {κ : Type} {k : κ} {v : V} {d : D} (h : Rep K F v d) : ∀ (ds : List (κ × D)) (vs : List (κ × V)), RepA K F vs ds → RepA K F (vs ++ [(k, v)]) (ds ++ [(k, d)])
  | [], vs, r => by cases r; exact .cons h .nil
  | p :: ds, vs, r => by
    cases r with
    | @cons _ k' v vs d ds h' t => exact .cons h' (RepA.snoc h ds _ t)
theorem RepA.mapp {κ : Type} [DecidableEq κ] {k : κ} {v : V} {d : D} (h : Rep K F v d) : ∀ (ds : List (κ × D)) (vs : List (κ × V)), RepA K F vs ds → RepA K F (vs.map fun kv => if kv.1 = k then (kv.1, v) else kv) (ds.map fun kv => if kv.1 = k then (kv.1, d) else kv)
  | [], vs, r => by cases r; exact .nil
  | p :: ds, vs, r => by
    cases r with
    | @cons _ k' v' vs d' ds h' t =>
      rw [List.map_cons, List.map_cons]
      by_cases e : k' = k
      · rw [if_pos e, if_pos e]; exact .cons h (RepA.mapp h ds _ t)
      · rw [if_neg e, if_neg e]; exact .cons h' (RepA.mapp h ds _ t)
theorem RepA.put {κ : Type} [DecidableEq κ] {k : κ} {v : V} {d : D} {ds : List (κ × D)} {vs : List (κ × V)} (r : RepA K F vs ds) (h : Rep K F v d) : RepA K F (putK vs k v) (putD ds k d) := by
  unfold putK putD
  rw [r.any k]
  split
  · exact r.mapp h
  · exact r.snoc h
def keyD : D → Option L2.Key
  | .int i => some (.inl i)
  | .str x => some (.inr x)
  | _ => none
def keysD : List D → Option (List L2.Key)
  | [] => some []
  | d :: ds => match keyD d, keysD ds with
    | some k, some ks => some (k :: ks)
    | _, _ => none
theorem key_rep {v : V} {d : D} {k : L2.Key} (h : Rep K F v d) (e : keyD d = some k) : v = kV k := by
  cases d with
  | int i => cases e; cases h; rfl
  | str i => cases e; cases h; rfl
  | _ => cases e
theorem keys_rep : ∀ (ds : List D) (vs : List V) (ks : List L2.Key), Reps K F vs ds → keysD ds = some ks → vs = ks.map kV
  | [], vs, ks, r, e => by cases r; cases e; rfl
  | d :: ds, vs, ks, r, e => by
    cases r with
    | cons h t =>
      unfold keysD at e
      split at e
      · rename_i k ks' e1 e2
        cases e
        rw [key_rep h e1, keys_rep ds _ ks' t e2]
        rfl
      · cases e
def lookD : D → D → Option (Option D)
  | .dK kvs, y => (keyD y).map (valD kvs)
  | .lK kvs, y => (keyD y).map (valD kvs)
  | .lT kvs, .tup ys => (keysD ys).map (valD kvs)
  | .dT kvs, .tup ys => (keysD ys).map (valD kvs)
  | _, _ => none
theorem dk_of (e : Same F H) {v : V} {ds : List (L2.Key × D)} (h : RdD K F H v (.dK ds)) : ∃ a vs, v = .ref a ∧ H a = some (.dK vs) ∧ RepA K F vs ds := by
  rcases h with h | ⟨p, rfl, o, ho, t⟩
  · cases h with | dK hf r => exact ⟨_, _, rfl, e _ _ hf, r⟩
  · cases t with | dK r => exact ⟨p, _, rfl, ho, r⟩
theorem dt_of (e : Same F H) {v : V} {ds : List (List L2.Key × D)} (h : RdD K F H v (.dT ds)) : ∃ a vs, v = .ref a ∧ H a = some (.dT vs) ∧ RepA K F vs ds := by
  rcases h with h | ⟨p, rfl, o, ho, t⟩
  · cases h with | dT hf r => exact ⟨_, _, rfl, e _ _ hf, r⟩
  · cases t with | dT r => exact ⟨p, _, rfl, ho, r⟩
theorem key_rd {v : V} {d : D} {k : L2.Key} (h : RdD K F H v d) (e : keyD d = some k) : v = kV k := by
  rcases h with h | ⟨p, rfl, o, ho, t⟩
  · exact key_rep h e
  · cases t <;> cases e
theorem tup_rd (e : Same F H) {v : V} {ds : List D} {ks : List L2.Key} (h : RdD K F H v (.tup ds)) (he : keysD ds = some ks) : ∃ b, v = .ref b ∧ H b = some (.tup (ks.map kV)) := by
  rcases h with h | ⟨p, rfl, o, ho, t⟩
  · cases h with | tup hf r => exact ⟨_, rfl, by rw [← keys_rep _ _ _ r he]; exact e _ _ hf⟩
  · cases t
theorem lk_of (e : Same F H) {v : V} {ds : List (L2.Key × D)} (h : RdD K F H v (.lK ds)) : ∃ a o vs, v = .ref a ∧ H a = some (.frz o (.dK vs)) ∧ RepA K F vs ds := by
  rcases h with h | ⟨p, rfl, o, ho, t⟩
  · cases h with | lK hf r => exact ⟨_, _, _, rfl, e _ _ hf, r⟩
  · cases t with | lK r => exact ⟨p, _, _, rfl, ho, r⟩
theorem lt_of (e : Same F H) {v : V} {ds : List (List L2.Key × D)} (h : RdD K F H v (.lT ds)) : ∃ a o vs, v = .ref a ∧ H a = some (.frz o (.dT vs)) ∧ RepA K F vs ds := by
  rcases h with h | ⟨p, rfl, o, ho, t⟩
  · cases h with | lT hf r => exact ⟨_, _, _, rfl, e _ _ hf, r⟩
  · cases t with | lT r => exact ⟨p, _, _, rfl, ho, r⟩
theorem look_ok {v1 v2 : V} {x y : D} {o : Option D} (e : Same F H) (h1 : RdD K F H v1 x) (h2 : RdD K F H v2 y) (hl : lookD x y = some o) :
    ∃ a ov, v1 = .ref a ∧ DGet H a v2 ov ∧ IsD H a ∧ (∀ d, o = some d → ∃ v, ov = some v ∧ Rep K F v d) ∧ (o = none → ov = none) := by
  unfold lookD at hl
  split at hl
  · obtain ⟨k, hk, rfl⟩ := Option.map_eq_some_iff.mp hl
    obtain ⟨a, vs, rfl, ha, r⟩ := dk_of e h1
    obtain rfl := key_rd h2 hk
    exact ⟨a, _, rfl, .k ha, .inl ⟨_, .of ha⟩, (r.val k).1, (r.val k).2⟩
  · obtain ⟨k, hk, rfl⟩ := Option.map_eq_some_iff.mp hl
    obtain ⟨a, o, vs, rfl, ha, r⟩ := lk_of e h1
    obtain rfl := key_rd h2 hk
    exact ⟨a, _, rfl, .inl ⟨_, k, .inr ⟨o, ha⟩, rfl, rfl⟩, .inl ⟨_, .inr ⟨o, ha⟩⟩, (r.val k).1, (r.val k).2⟩
  · obtain ⟨k, hk, rfl⟩ := Option.map_eq_some_iff.mp hl
    obtain ⟨a, o, vs, rfl, ha, r⟩ := lt_of e h1
    obtain ⟨b, rfl, hb⟩ := tup_rd e h2 hk
    exact ⟨a, _, rfl, .inr ⟨_, k, b, .inr ⟨o, ha⟩, rfl, hb, rfl⟩, .inr ⟨_, .inr ⟨o, ha⟩⟩, (r.val k).1, (r.val k).2⟩
  · obtain ⟨k, hk, rfl⟩ := Option.map_eq_some_iff.mp hl
    obtain ⟨a, vs, rfl, ha, r⟩ := dt_of e h1
    obtain ⟨b, rfl, hb⟩ := tup_rd e h2 hk
    exact ⟨a, _, rfl, .t ha hb, .inr ⟨_, .of ha⟩, (r.val k).1, (r.val k).2⟩
  · cases hl
/-- d[k] -/
def dDGet : DOp := fun x y k => onO (lookD x y) fun o => onO o fun d => k (.dat d)
def rDGet : R2 := fun x y H Q => ∃ a v, x = .ref a ∧ DGet H a y (some v) ∧ Q v H
theorem dDGet_ok : OpS K rDGet dDGet := by
  intro E F H σ a v1 v2 x y Q k R h1 h2 ho l
  obtain ⟨o, e, ho⟩ := onO_iff.mp ho
  obtain ⟨d, rfl, hk⟩ := onO_iff.mp ho
  obtain ⟨p, ov, rfl, g, _, h3, _⟩ := look_ok R.ext h1 h2 e
  obtain ⟨v, rfl, rv⟩ := h3 d rfl
  exact ⟨p, v, rfl, g, l v (.dat d) F H (Same.refl F) R rv hk⟩
/-- k in d, k not in d -/
def dDIn : DOp := fun y x k => onO (lookD x y) fun o => k (.dat (.bl o.isSome))
def dDNotIn : DOp := fun y x k => onO (lookD x y) fun o => k (.dat (.bl (!o.isSome)))
def rDIn : R2 := fun y x H Q => ∃ a o, x = .ref a ∧ DGet H a y o ∧ Q (.bl o.isSome) H
def rDNotIn : R2 := fun y x H Q => ∃ a o, x = .ref a ∧ DGet H a y o ∧ Q (.bl (!o.isSome)) H
theorem some_iso {o : Option D} {ov : Option V} (h3 : ∀ d, o = some d → ∃ v, ov = some v ∧ Rep K F v d) (h4 : o = none → ov = none) : ov.isSome = o.isSome := by
  cases o with
  | none => rw [h4 rfl]; rfl
  | some d => obtain ⟨v, rfl, _⟩ := h3 d rfl; rfl
theorem dDIn_ok : OpS K rDIn dDIn := by
  intro E F H σ a v1 v2 x y Q k R h1 h2 ho l
  obtain ⟨o, e, hk⟩ := onO_iff.mp ho
  obtain ⟨p, ov, rfl, g, _, h3, h4⟩ := look_ok R.ext h2 h1 e
  refine ⟨p, ov, rfl, g, ?_⟩
  rw [some_iso h3 h4]
  exact l _ (.dat _) F H (Same.refl F) R (Rep.bl _) hk
theorem dDNotIn_ok : OpS K rDNotIn dDNotIn := by
  intro E F H σ a v1 v2 x y Q k R h1 h2 ho l
  obtain ⟨o, e, hk⟩ := onO_iff.mp ho
  obtain ⟨p, ov, rfl, g, _, h3, h4⟩ := look_ok R.ext h2 h1 e
  refine ⟨p, ov, rfl, g, ?_⟩
  rw [some_iso h3 h4]
  exact l _ (.dat _) F H (Same.refl F) R (Rep.bl _) hk
end
section
variable {X : Cx} {W : L2.St → XK} {e a b c : Expr} {pos : Pos} {ta tb tc : TE} {w w1 w2 w3 : WE}
theorem se_dget (hu : X.A.units + 1 < cLine) (h1 : SE X W a ta w1) (h2 : SE X W b tb w2) (hs : NoSl b) : SE X W (.Subscript a b pos) (tDGet ta tb) (wBin dDGet w1 w2) :=
  ⟨pe_dget hu h1.1 h2.1 hs, bin_ok (r := rDGet) dDGet_ok h1.2 h2.2⟩
theorem se_din (hu : X.A.units + 1 < cLine) (h1 : SE X W a ta w1) (h2 : SE X W b tb w2) (hm : behindInMarks .In b = false) : SE X W (.Compare a [.In] [b] pos) (tDIn ta tb) (wBin dDIn w1 w2) :=
  ⟨pe_cmp (pc_din hu h1.1 h2.1) hm, bin_ok (r := rDIn) dDIn_ok h1.2 h2.2⟩
theorem se_dnotin (hu : X.A.units + 1 < cLine) (h1 : SE X W a ta w1) (h2 : SE X W b tb w2) (hm : behindInMarks .NotIn b = false) : SE X W (.Compare a [.NotIn] [b] pos) (tDNotIn ta tb) (wBin dDNotIn w1 w2) :=
  ⟨pe_cmp (pc_dnotin hu h1.1 h2.1) hm, bin_ok (r := rDNotIn) dDNotIn_ok h1.2 h2.2⟩
theorem st_din (hu : X.A.units + 1 < cLine) (h1 : SE X W a ta w1) (h2 : SE X W b tb w2) (hm : behindInMarks .In b = false) : ST X W (.Compare a [.In] [b] pos) (tTest (tDIn ta tb)) (wTst (wBin dDIn w1 w2)) :=
  ⟨pt_cmp (pc_din hu h1.1 h2.1) hm, tst_ok (bin_ok (r := rDIn) dDIn_ok h1.2 h2.2)⟩
theorem st_dnotin (hu : X.A.units + 1 < cLine) (h1 : SE X W a ta w1) (h2 : SE X W b tb w2) (hm : behindInMarks .NotIn b = false) : ST X W (.Compare a [.NotIn] [b] pos) (tTest (tDNotIn ta tb)) (wTst (wBin dDNotIn w1 w2)) :=
  ⟨pt_cmp (pc_dnotin hu h1.1 h2.1) hm, tst_ok (bin_ok (r := rDNotIn) dDNotIn_ok h1.2 h2.2)⟩
/-- {} -/
def wNew (d : D) : WE := fun a q _ => q (.new d) a
theorem se_dnewK : SE X W (.Dict [] [] pos) tDNewK (wNew (.dK [])) := ⟨pe_dnewK, fun E F H σ a Q q qe R hw l _ p hp => by
  obtain ⟨f1, f2, f3⟩ := R.fresh hp
  exact l (.ref p) (.new (.dK [])) F _ a (Same.refl F) (R.lay _ hp) ⟨p, rfl, f1, f2, ⟨_, upd_same, .dK .nil⟩, f3⟩ hw⟩
theorem se_dnewT : SE X W (.Dict [] [] pos) tDNewT (wNew (.dT [])) := ⟨pe_dnewT, fun E F H σ a Q q qe R hw l _ p hp => by
  obtain ⟨f1, f2, f3⟩ := R.fresh hp
  exact l (.ref p) (.new (.dT [])) F _ a (Same.refl F) (R.lay _ hp) ⟨p, rfl, f1, f2, ⟨_, upd_same, .dT .nil⟩, f3⟩ hw⟩
/-- d[k] = e -/
def putS (x y d : D) (k : D → Prop) : Prop := match x, y with
  | .dK kvs, y => onO (keyD y) fun key => kvs.length < sizeLine ∧ k (.dK (putD kvs key d))
  | .dT kvs, .tup ys => onO (keysD ys) fun key => kvs.length < sizeLine ∧ k (.dT (putD kvs key d))
  | _, _ => False
def onOwnD (x : Option (Option AV)) (f : Ow → D → Prop) : Prop := match x with
  | some (some ⟨.own, c⟩) => f .own c
  | some (some ⟨.lent, c⟩) => f .lent c
  | _ => False
theorem onOwnD_iff {x : Option (Option AV)} {f : Ow → D → Prop} : onOwnD x f ↔ ∃ o c, x = some (some ⟨o, c⟩) ∧ o ≠ .no ∧ f o c := by
  constructor
  · intro h
    unfold onOwnD at h
    split at h
    · exact ⟨_, _, rfl, by simp, h⟩
    · exact ⟨_, _, rfl, by simp, h⟩
    · exact h.elim
  · rintro ⟨o, c, rfl, ho, h⟩
    cases o
    · exact absurd rfl ho
    · exact h
    · exact h
def wDPut (i : Nat) (wk w : WE) : WS := fun D a => w a (fun r a1 => fz r a1 fun d a2 => onS a2[i]? fun _ => wk a2 (fun rk a3 => onO (con a3 rk) fun y => onOwnD a3[i]? fun o x => putS x y d fun x' => D.nx (a3.set i (some ⟨o, x'⟩))) D.ex) D.ex
theorem ss_dput {i : Nat} {o : Expr} {p2 : Pos} (hu : X.A.units + 1 < cLine) (ho : PE X o (tVar i)) (hk : SE X W b tb w2) (h : SE X W e ta w) (hs : swapsWith e (some (.Subscript o b p2)) pos.line X.env = pure false := by rfl) :
    SS X W (.Assign [.Subscript o b p2] e pos) (sDPut (tVar i) tb ta) (wDPut i w2 w) := by
  refine ⟨ps_dput hu ho hk.1 h.1 hs, fun E F H σ a D DA R hw l => h.2 E F H σ a _ _ _ R hw (fun v r F' H' a' e R' rp q => ?_) (l.ex σ)⟩
  obtain ⟨F2, a2, d, s, R2, rp2, hq⟩ := fz_ok R' rp q
  obtain ⟨av, ha, hq⟩ := onS_iff.mp hq
  obtain ⟨vo, hv, _⟩ := R2.sl i av ha
  refine ⟨vo, hv, hk.2 E F2 H' σ a2 _ _ _ R2 hq (fun u rk F3 H3 a3 e3 R3 rp3 hq3 => ?_) ((l.ex σ).to (e.trans s))⟩
  obtain ⟨y, c, hq3⟩ := onO_iff.mp hq3
  obtain ⟨o, x, h3, ho3, hq3⟩ := onOwnD_iff.mp hq3
  have hy := rd_of R3 rp3 c
  have hx : ∃ p, vo = .ref p ∧ TopAt X.K F3 H3 p x := by
    obtain ⟨v', hv', oa⟩ := R3.sl i _ h3
    rw [hv] at hv'
    cases hv'
    cases o with
    | no => exact absurd rfl ho3
    | own => obtain ⟨p, rfl, _, _, t⟩ := oa; exact ⟨p, rfl, t⟩
    | lent => obtain ⟨p, rfl, _, _, _, t⟩ := oa; exact ⟨p, rfl, t⟩
  obtain ⟨p, rfl, ob, hob, t⟩ := hx
  unfold putS at hq3
  split at hq3
  · obtain ⟨key, hkey, hz, hnx⟩ := onO_iff.mp hq3
    cases t with
    | dK r =>
      obtain rfl := key_rd hy hkey
      refine ⟨p, _, rfl, DPut.k hob (by rw [r.len]; exact hz), ?_⟩
      exact l.nx _ F3 _ _ ((e.trans s).trans e3) (R3.write h3 ho3 hv (.dK (r.put (rp2.mono e3)))) hnx
  · obtain ⟨key, hkey, hz, hnx⟩ := onO_iff.mp hq3
    cases t with
    | dT r =>
      obtain ⟨q, rfl, hb⟩ := tup_rd R3.ext hy hkey
      refine ⟨p, _, rfl, DPut.t hob hb (by rw [r.len]; exact hz), ?_⟩
      exact l.nx _ F3 _ _ ((e.trans s).trans e3) (R3.write h3 ho3 hv (.dT (r.put (rp2.mono e3)))) hnx
  · exact hq3.elim
/-- d.get(k, x) -/
def isDic : D → Bool
  | .dK _ => true
  | .dT _ => true
  | _ => false
def wDGet2 (w1 w2 w3 : WE) : WE := fun a q qe => w1 a (fun r1 a1 => onO (con a1 r1) fun x => isDic x = true ∧ w2 a1 (fun r2 a2 => w3 a2 (fun r3 a3 => onO (con a3 (hold r1)) fun x => onO (con a3 (hold r2)) fun y => onO (lookD x y) fun o => match o with
  | some d => q (.dat d) a3
  | none => q r3 a3) qe) qe) qe
theorem se_dget2 {o e f : Expr} {apos cpos : Pos} (hu : X.A.units + 1 < cLine) (h1 : SE X W o ta w1) (h2 : SE X W e tb w2) (h3 : SE X W f tc w3) (m : M2 X o "get" apos e f cpos) : SE X W (.Call (.Attribute o "get" apos) [e, f] [] cpos) (tDGet2 ta tb tc) (wDGet2 w1 w2 w3) := by
  obtain ⟨p1, s1⟩ := h1
  obtain ⟨p2, s2⟩ := h2
  obtain ⟨p3, s3⟩ := h3
  refine ⟨pe_dget2 hu p1 p2 p3 m, fun E F H σ a Q q qe R hw l lx => ?_⟩
  refine s1 E F H σ a _ _ qe R hw (fun v1 r1 F1 H1 a1 e1 R1 rp1 hw1 => ?_) lx
  obtain ⟨x, c1, hd, hw1⟩ := onO_iff.mp hw1
  have hx := rd_of R1 rp1 c1
  have hp : ∃ p, v1 = .ref p ∧ IsD H1 p := by
    cases x with
    | dK ds => obtain ⟨p, vs, rfl, hp, _⟩ := dk_of R1.ext hx; exact ⟨p, rfl, .inl ⟨_, .of hp⟩⟩
    | dT ds => obtain ⟨p, vs, rfl, hp, _⟩ := dt_of R1.ext hx; exact ⟨p, rfl, .inr ⟨_, .of hp⟩⟩
    | _ => cases hd
  obtain ⟨p, rfl, hp⟩ := hp
  obtain ⟨F1', e1', R1', rp1'⟩ := hold_ok R1 rp1
  refine ⟨p, rfl, hp, s2 E F1' H1 σ a1 _ _ qe R1' hw1 (fun v2 r2 F2 H2 a2 e2 R2 rp2 hw2 => ?_) (lx.to (e1.trans e1'))⟩
  obtain ⟨F2', e2', R2', rp2'⟩ := hold_ok R2 rp2
  refine s3 E F2' H2 σ a2 _ _ qe R2' hw2 (fun v3 r3 F3 H3 a3 e3 R3 rp3 hw3 => ?_) (lx.to (((e1.trans e1').trans e2).trans e2'))
  obtain ⟨x', c1', hw3⟩ := onO_iff.mp hw3
  obtain ⟨y, c2, hw3⟩ := onO_iff.mp hw3
  obtain ⟨ov, hl, hw3⟩ := onO_iff.mp hw3
  obtain ⟨a', v, ea, g, _, g1, g2⟩ := look_ok R3.ext (rd_of R3 (held_on (H' := H3) (a' := a3) ((e2.trans e2').trans e3) rp1') c1') (rd_of R3 (held_on (H' := H3) (a' := a3) e3 rp2') c2) hl
  cases ea
  refine ⟨v, g, ?_⟩
  have e := (((e1.trans e1').trans e2).trans e2').trans e3
  cases ov with
  | some d =>
    obtain ⟨u, rfl, ru⟩ := g1 d rfl
    exact l u (.dat d) F3 H3 a3 e R3 ru hw3
  | none =>
    rw [g2 rfl]
    exact l v3 r3 F3 H3 a3 e R3 rp3 hw3
end
/-! ### x in l, of any data -/
@[irreducible] def inH (x y : D) (k : Bool → Prop) : Prop := ∃ d ds, pyd x = some d ∧ pyd y = some (.list ds) ∧ SeqAt.shaped d = true ∧ SeqAt.shaped (.list ds) = true ∧ k (ds.any fun z => PyData.eqv z d)
def dInD : DOp := fun x y k => inH x y fun b => k (.dat (.bl b))
def dNotInD : DOp := fun x y k => inH x y fun b => k (.dat (.bl (!b)))
theorem dInD_ok {K : PySem.W.Frag} : OpS K (rInD K) dInD := by
  intro E F H σ a v1 v2 x y Q k R h1 h2 ho l
  unfold dInD inH at ho
  obtain ⟨d, ds, e1, e2, s1, s2, hk⟩ := ho
  exact ⟨d, ds, dp_rd R.ext h1 e1, dp_rd R.ext h2 e2, s1, s2, l _ (.dat _) F H (Same.refl F) R (Rep.bl _) hk⟩
theorem dNotInD_ok {K : PySem.W.Frag} : OpS K (rNotInD K) dNotInD := by
  intro E F H σ a v1 v2 x y Q k R h1 h2 ho l
  unfold dNotInD inH at ho
  obtain ⟨d, ds, e1, e2, s1, s2, hk⟩ := ho
  exact ⟨d, ds, dp_rd R.ext h1 e1, dp_rd R.ext h2 e2, s1, s2, l _ (.dat _) F H (Same.refl F) R (Rep.bl _) hk⟩
theorem pyds_any {n : Nat} {x : D} {p : PyData} (hx : Nb n x) (e : pyd x = some p) : ∀ (ys : List D) (ps : List PyData), (∀ y ∈ ys, Nb n y) → pyds ys = some ps → ((ps.any fun z => PyData.eqv z p) = true ↔ x ∈ ys)
  | [], ps, _, h => by cases h; simp
  | y :: ys, ps, hn, h => by
    obtain ⟨q, qs, rfl, a, b⟩ := pyds_cons h
    rw [List.any_cons, Bool.or_eq_true, nb_eqv n y x (hn y (List.mem_cons_self ..)) hx q p a e, pyds_any hx e ys qs (fun z hz => hn z (List.mem_cons_of_mem _ hz)) b, List.mem_cons]
    constructor
    · rintro (h | h)
      · exact .inl h.symm
      · exact .inr h
    · rintro (h | h)
      · exact .inl h.symm
      · exact .inr h
/-- x in l, over data of numbers and texts -/
theorem in_nb {n : Nat} {x : D} {ys : List D} {k : Bool → Prop} (hx : Nb n x) (hy : ∀ y ∈ ys, Nb n y) (hn : n ≤ 60) (h1 : x ∈ ys → k true) (h2 : x ∉ ys → k false) : inH x (.lst ys) k := by
  obtain ⟨p, e1, c1, d1⟩ := nb_pyd n x hx
  obtain ⟨q, e2, c2, d2⟩ := nb_pyd (n + 1) (.lst ys) hy
  obtain ⟨qs, e3, rfl⟩ : ∃ qs, pyds ys = some qs ∧ q = .list qs := by
    rw [pyd] at e2
    obtain ⟨qs, e3, rfl⟩ := Option.map_eq_some_iff.mp e2
    exact ⟨qs, e3, rfl⟩
  have he := pyds_any hx e1 ys qs hy e3
  have hk : k (qs.any fun z => PyData.eqv z p) := by
    by_cases h : x ∈ ys
    · rw [he.mpr h]; exact h1 h
    · have : (qs.any fun z => PyData.eqv z p) = false := by
        cases hb : qs.any fun z => PyData.eqv z p
        · rfl
        · exact absurd (he.mp hb) h
      rw [this]; exact h2 h
  unfold inH
  refine ⟨p, qs, e1, e2, ?_, ?_, hk⟩
  · unfold SeqAt.shaped; rw [c1, decide_eq_true (by omega)]; rfl
  · unfold SeqAt.shaped; rw [c2, decide_eq_true (by omega)]; rfl
theorem hu65_of {k : Nat} {A : Around} (r : Room k A) : A.units + 65 < cLine := by have := r.un; omega
/-- len of a dict of tuples -/
def dLenT : DCall := fun ds k => match ds with
  | [.dT kvs] => k (.dat (.int kvs.length))
  | _ => False
theorem dLenT_ok {K : PySem.W.Frag} : CallS K rLenT dLenT := by
  intro E F H σ a vs ds Q k R h ho l
  unfold dLenT at ho
  split at ho
  · cases h with
    | cons h t =>
      cases t
      obtain ⟨p, ws, rfl, hp, r⟩ := dt_of R.ext h
      exact ⟨p, ws, rfl, hp, by rw [r.len]; exact l _ (.dat _) F H (Same.refl F) R (Rep.int _) ho⟩
  · exact ho.elim
/-! ### a text, several times -/
def rSMul : R2 := fun x y H Q => ∃ z k, x = .str z ∧ y = .int k ∧ MulOk z k ∧ Q (.str (Txt.mul z k)) H
theorem op_smul {X : Cx} : OpR X (binaryOp .Mult) rSMul := by
  intro pins s σ H x y v u Q I rx ry h
  obtain ⟨z, k, rfl, rfl, hok, q⟩ := h
  obtain ⟨t, rfl⟩ := rx
  obtain ⟨t', rfl⟩ := ry
  exact PySem.SB.mul hok fun t2 k2 => ⟨.str _, H, I.tok _, ⟨t2, rfl⟩, q⟩
def rMulS : R2 := fun x y H Q => rMulA x y H Q ∨ rSMul x y H Q
theorem op_mulS {X : Cx} : OpR X (binaryOp .Mult) rMulS := op_mulA.or op_smul
def dMulS : DOp := fun x y k => match x, y with
  | .str z, .int n => MulOk z n ∧ k (.dat (.str (Txt.mul z n)))
  | x, y => dMul x y k
theorem dMulS_ok {K : PySem.W.Frag} : OpS K rMulS dMulS := by
  intro E F H σ a v1 v2 x y Q k R h1 h2 ho l
  unfold dMulS at ho
  split at ho
  · exact .inr ⟨_, _, h1.str, h2.int, ho.1, l _ (.dat _) F H (Same.refl F) R (Rep.str _) ho.2⟩
  · exact .inl (dMul_ok E F H σ a v1 v2 _ _ Q k R h1 h2 ho l)
end DS

namespace DS
open PySem PySem.Spec PyProof.Rows L2
/-! ### a comprehension over a list that may be lent -/
@[irreducible] def lcL (k : Nat) (items : List D) (vs : List Nat) (wg : WG) (wt : WT) (we : WE) (a1 : PSt) (q : Res → PSt → Prop) : Prop := ∃ Inv : Nat → List D → PSt → Prop, Inv 0 [] a1 ∧ (∀ i acc a2, Inv i acc a2 → a2[k]? = some (some ⟨.lent, .lst items⟩)) ∧
  (∀ i acc a2 d, items[i]? = some d → Inv i acc a2 → wg d (wipeA a2 vs) fun a3 => wt a3 (fun b a4 => br b
    (we a4 (fun r a5 => fz r a5 fun y a6 => acc.length < sizeLine ∧ Inv (i + 1) (acc ++ [y]) (wipeA a6 vs)) (fun _ _ => False)) (Inv (i + 1) acc (wipeA a4 vs))) (fun _ _ => False)) ∧
  ∀ acc a2, Inv items.length acc a2 → q (.new (.lst acc)) (keepNo a1 vs a2)
theorem lc_l {k : Nat} {items : List D} {vs : List Nat} {wg : WG} {wt : WT} {we : WE} {a1 : PSt} {q : Res → PSt → Prop} (Inv : Nat → List D → PSt → Prop) (h0 : Inv 0 [] a1) (hk : ∀ i acc a2, Inv i acc a2 → a2[k]? = some (some ⟨.lent, .lst items⟩))
    (hs : ∀ i acc a2 d, items[i]? = some d → Inv i acc a2 → wg d (wipeA a2 vs) fun a3 => wt a3 (fun b a4 => br b
    (we a4 (fun r a5 => fz r a5 fun y a6 => acc.length < sizeLine ∧ Inv (i + 1) (acc ++ [y]) (wipeA a6 vs)) (fun _ _ => False)) (Inv (i + 1) acc (wipeA a4 vs))) (fun _ _ => False))
    (he : ∀ acc a2, Inv items.length acc a2 → q (.new (.lst acc)) (keepNo a1 vs a2)) : lcL k items vs wg wt we a1 q := by unfold lcL; exact ⟨Inv, h0, hk, hs, he⟩
def wLcN (k : Nat) (vs : List Nat) (wg : WG) (wt : WT) (we : WE) : WE := fun a q qe => match lentAt a k with
  | some items => lcL k items vs wg wt we a q
  | none => wLc (wiSeq (wVar k)) vs wg wt we a q qe
theorem lcN_ok {X : Cx} {W : L2.St → XK} {k : Nat} {e0 : Expr} (hE : PE X e0 (tVar k)) {g : TG} {wg : WG} {tt : TT} {wt : WT} {te : TE} {we : WE} {vs sl : List Nat}
    (hg : ∀ E F H σ a v d Q q, Rel X.K E F H σ a → Rep X.K F v d → wg d a q → (∀ σ' a', Only sl σ σ' → Rel X.K E F H σ' a' → q a' → Q σ' H) → g v σ H Q) (hsl : ∀ j ∈ sl, j ∈ vs)
    (ht : ∀ E F H σ a Q q qe, Rel X.K E F H σ a → wt a q qe → Lt X.K E F σ q Q → Lx X.K E F σ qe (W0 σ) → tt σ H Q)
    (he : ∀ E F H σ a Q q qe, Rel X.K E F H σ a → we a q qe → Ln X.K E F σ q Q → Lx X.K E F σ qe (W0 σ) → te σ H Q) :
    ∀ E F H σ a Q q qe, Rel X.K E F H σ a → wLcN k vs wg wt we a q qe → Ln X.K E F σ q Q → Lx X.K E F σ qe (W σ) → tLc (iList X.K (tVar k)) g tt te vs σ H Q := by
  intro E F H σ a Q q qe R hw l lx
  unfold wLcN at hw
  split at hw
  case h_2 => exact lc_ok (fun E F H σ a R q qe => (si_list (tg := .Name "" ⟨0, 0, 0, 0⟩) (se_var hE)).2 E F H σ a R q qe) hg hsl ht he E F H σ a Q q qe R hw l lx
  rename_i items hl
  have hl := lentAt_some hl
  unfold lcL at hw
  obtain ⟨Inv, h0, hk, hst, hend⟩ := hw
  obtain ⟨v, hσ, p, rfl, hF, hLp, hv, hT⟩ := R.sl k _ hl
  have seq : ∀ {E2 : En} {F2 H2 : Hp} {a2 : PSt}, E2.vs = E.vs → Rel X.K E2 F2 H2 σ a2 → a2[k]? = some (some ⟨.lent, .lst items⟩) → ∃ xs, H2 p = some (.lst xs) ∧ Reps X.K F2 xs items := by
    intro E2 F2 H2 a2 ee R2 h2
    obtain ⟨v2, _, p2, rfl, _, _, hv2, o, ho, t⟩ := R2.sl k _ h2
    have e : p2 = p := by rw [ee, hv] at hv2; cases hv2; rfl
    subst e
    cases t with
    | lst r => exact ⟨_, ho, r⟩
  obtain ⟨xs0, hp1, _⟩ := seq rfl R hl
  refine ⟨.ref p, hσ, p, rfl, ⟨xs0, SqL.of hp1⟩, ?_⟩
  have R1 := R
  have e1 : Same F F := Same.refl F
  intro Dd hD
  obtain ⟨f1, f2, f3⟩ := R1.fresh hD
  have hL : ¬ E.L Dd := fun z => R1.lt Dd z f2
  have hF0 : E.F Dd = none := R1.f0.free f1
  refine ⟨fun i m H' => m = items.length - i ∧ i ≤ items.length ∧ ∃ F2 a2 accV acc, Same F F2 ∧ Rel X.K (E.side Dd (.lst accV)) F2 H' σ a2 ∧ Reps X.K F2 accV acc ∧ Inv i acc a2,
    ⟨_, rfl, Nat.zero_le _, F, a, [], [], Same.refl F, (R1.lay (.lst []) hD).toSide f1 f2 f3 upd_same, .nil, h0⟩, ?_⟩
  rintro i m H' ⟨rfl, hi', F2, a2, accV, acc, s2, R2, racc, hinv⟩
  by_cases hlt : i < items.length
  · obtain ⟨xs, hp2, rp2⟩ := seq (E2 := E.side Dd (.lst accV)) rfl R2 (hk i acc a2 hinv)
    have hlv : i < xs.length := by rw [rp2.length]; exact hlt
    refine .inr ⟨⟨xs, xs[i], SqL.of hp2, List.getElem?_eq_getElem hlv⟩, fun H3 => ∃ F3 a3 accV acc, Same F F3 ∧ Rel X.K (E.side Dd (.lst accV)) F3 H3 σ a3 ∧ Reps X.K F3 accV acc ∧ Inv (i + 1) acc a3,
      fun H3 ⟨F3, a3, av, ac, s3, R3, r3, h3⟩ => ⟨items.length - (i + 1), by omega, rfl, hlt, F3, a3, av, ac, s3, R3, r3, h3⟩, fun x H3 y => ?_⟩
    obtain ⟨rfl, y⟩ := y
    obtain ⟨d, hd, rp⟩ := rp2.get (y xs (SqL.of hp2))
    obtain ⟨F3, s3, eF⟩ : ∃ F3, Same F2 F3 ∧ F3 = F2 := ⟨F2, Same.refl F2, rfl⟩
    subst eF
    have R3 := R2
    refine hg _ F3 H3 (L2.wipe σ vs) (wipeA a2 vs) x d _ _ (R3.wipe vs) rp (hst i acc a2 d hd hinv) fun σ4 a4 o4 R4 hq4 => ⟨wipe_only o4 hsl, ?_⟩
    have back : ∀ {F5 H5 : Hp} {a5 : PSt} {EE : En}, Rel X.K EE F5 H5 σ4 a5 → Rel X.K EE F5 H5 σ (wipeA a5 vs) := fun {F5 H5 a5 EE} R5 => by
      refine R5.less (by rw [wipeA_length, R5.len, o4.1, L2.wipe_length]) fun j av e => ?_
      obtain ⟨h1, h2⟩ := wipeA_some e
      refine ⟨h1, ?_⟩
      rw [o4.2 j fun z => h2 (hsl j z), L2.wipe_out h2]
    refine ht _ F3 H3 σ4 a4 _ _ _ R4 hq4 (fun b F5 H5 a5 e5 R5 q5 => ?_) (fun x a c dx F5 H5 _ _ _ z => z)
    cases b with
    | false =>
      rw [if_neg Bool.false_ne_true]
      exact ⟨F5, _, accV, acc, (s2.trans s3).trans e5, back R5, (racc.mono s3).mono e5, br_ff q5 rfl⟩
    | true =>
      rw [if_pos rfl]
      refine he _ F5 H5 σ4 a5 _ _ _ R5 (br_tt q5 rfl) (fun v r F6 H6 a6 e6 R6 rp6 q6 => ?_) (fun x a c dx F5 H5 _ _ _ z => z)
      obtain ⟨F7, a7, yd, s7, R7, rp7, hz, hinv'⟩ := fz_ok R6 rp6 q6
      have R8 := back R7
      obtain ⟨R9, g1, g2, g3⟩ := R8.ofSide f2 hL hF0
      have sAll : Same F3 F7 := (e5.trans e6).trans s7
      have racc' : Reps X.K F7 accV acc := (racc.mono s3).mono sAll
      refine ⟨accV, g3, by rw [racc'.length]; exact hz, F7, _, accV ++ [v], acc ++ [yd], (s2.trans s3).trans sAll, ?_, racc'.append (.cons rp7 .nil), hinv'⟩
      have R10 : Rel X.K E F7 (upd H6 Dd (.lst (accV ++ [v]))) σ (wipeA a7 vs) := by
        refine ⟨fun b u e => ?_, R9.f0, R9.new, fun b u e l' => ?_, fun b e => ?_, R9.lt, R9.len, fun j av e => ?_, R9.dis⟩
        · rw [upd_ne (ne_of_none e g1)]; exact R9.ext _ _ e
        · rw [upd_ne (ne_of_none e f2)]; exact R9.keep _ _ e l'
        · by_cases hb : b = Dd
          · rw [hb]; exact f2
          · rw [upd_ne hb] at e; exact R9.dom _ e
        · obtain ⟨u, e1', q⟩ := R9.sl j av e
          refine ⟨u, e1', ?_⟩
          have hne : ∀ p, u = .ref p → av.o ≠ .no → p ≠ Dd := fun p hp ho z => g2 ⟨j, av, e, ho, by rw [e1', hp, z]⟩
          obtain ⟨ow, cc⟩ := av
          cases ow with
          | no => exact q
          | own => obtain ⟨p, rfl, h1, h2, o, h3, h4⟩ := q; exact ⟨p, rfl, h1, h2, o, by rw [upd_ne (hne p rfl (by simp))]; exact h3, h4⟩
          | lent => obtain ⟨p, rfl, h1, h2, h5, o, h3, h4⟩ := q; exact ⟨p, rfl, h1, h2, h5, o, by rw [upd_ne (hne p rfl (by simp))]; exact h3, h4⟩
      exact R10.toSide g1 f2 g2 upd_same
  · have e : i = items.length := by omega
    subst e
    obtain ⟨R3, g1, g2, g3⟩ := R2.ofSide f2 hL hF0
    obtain ⟨xs, hp2, rp2⟩ := seq (E2 := E.side Dd (.lst accV)) rfl R2 (hk _ acc a2 hinv)
    refine .inl ⟨⟨xs, SqL.of hp2, by rw [rp2.length]; exact Nat.le_refl _⟩, ?_⟩
    have R4 := Rel.keepNo R1 s2 R3 vs
    refine l (.ref Dd) (.new (.lst acc)) F2 H' _ (e1.trans s2) R4 ⟨Dd, rfl, g1, f2, ⟨_, g3, .lst racc⟩, fun ⟨j, av, h1, h2, h3⟩ => ?_⟩ (hend acc a2 hinv)
    -- what keepNo owns, a2 owns
    have kn : ∀ (ws : List Nat) (j : Nat) (av : AV), (keepNo a ws a2)[j]? = some (some av) → av.o ≠ .no → a2[j]? = some (some av) := by
      intro ws
      induction ws with
      | nil => exact fun j av h _ => h
      | cons v ws ih =>
        intro j av h ho
        unfold keepNo at h
        by_cases hv : v = j
        · subst hv
          have hl := (List.getElem?_eq_some_iff.mp h).1
          rw [List.length_set] at hl
          rw [List.getElem?_set_self hl] at h
          split at h
          · cases h; exact absurd rfl ho
          · cases h
        · rw [List.getElem?_set_ne hv] at h
          exact ih j av h ho
    exact g2 ⟨j, av, kn vs j av h1 h2, h2, h3⟩
section
variable {X : Cx} {W : L2.St → XK}
theorem se_lcN {k : Nat} {elt tg iter : Expr} {ifs : List Expr} {scope : Scope} {own : List (Str × Nat)} {pos : Pos} {wg : WG} {wt : WT} {we : WE} {sl : List Nat} (hc : X.calm = true) (hN : X.N.Nodup) (hi : PE X iter (tVar k)) (ok : BlkOk X.N X.env.scope scope own)
    (hg : ∀ (s : Shared) (H : Hp) (C : Addr) (cl : List (Str × Addr)) (fp : List Addr), ∃ g, SG (X.blk s H scope (compEnvC scope cl C X.env) fp) tg g wg sl) (hsl : ∀ j ∈ sl, j ∈ own.map (·.2))
    (ht : ∀ (s : Shared) (H : Hp) (C : Addr) (cl : List (Str × Addr)) (fp : List Addr), ∃ t, STs (X.blk s H scope (compEnvC scope cl C X.env) fp) W0 ifs t wt)
    (he : ∀ (s : Shared) (H : Hp) (C : Addr) (cl : List (Str × Addr)) (fp : List Addr), ∃ t, SE (X.blk s H scope (compEnvC scope cl C X.env) fp) W0 elt t we) (hs : ∀ x, foldedSetIterable iter X.env x = pure x := by intro _; rfl) :
    SE X W (.ListComp elt [⟨tg, iter, ifs, 0⟩] scope pos) (tLc (iList X.K (tVar k)) (gG X.K wg sl) (tT X.K W0 wt) (tE X.K W0 we) (own.map (·.2))) (wLcN k (own.map (·.2)) wg wt we) :=
  ⟨pe_lc hc hN (pi_list hi) ok (fun s H C cl fp => let ⟨_, h⟩ := hg s H C cl fp; h.own) (fun s H C cl fp => let ⟨_, h⟩ := ht s H C cl fp; h.own) (fun s H C cl fp => let ⟨_, h⟩ := he s H C cl fp; h.own) hs,
    lcN_ok hi (fun E F H σ a v d Q q R rp hw l => ⟨E, F, a, d, q, R, rp, hw, l⟩) hsl (fun E F H σ a Q q qe R hw l lx => ⟨E, F, a, q, qe, R, hw, l, lx⟩) (fun E F H σ a Q q qe R hw l lx => ⟨E, F, a, q, qe, R, hw, l, lx⟩)⟩
theorem ss_setLcN {k : Nat} {i : Nat} {y : Str} {py : Pos} {elt tg iter : Expr} {ifs : List Expr} {scope : Scope} {own : List (Str × Nat)} {pos spos : Pos} {wg : WG} {wt : WT} {we : WE} {sl : List Nat} (hc : X.calm = true) (hN : X.N.Nodup) (hy : X.N[i]? = some y) (hyl : X.env.scope.names.lookup y = some .local)
    (hsw : swapsWith (.ListComp elt [⟨tg, iter, ifs, 0⟩] scope pos) (some (.Name y py)) spos.line X.env = pure true) (hi : PE X iter (tVar k)) (ok : BlkOk X.N X.env.scope scope own)
    (hg : ∀ (s : Shared) (H : Hp) (C : Addr) (cl : List (Str × Addr)) (fp : List Addr), ∃ g, SG (X.blk s H scope (compEnvC scope cl C X.env) fp) tg g wg sl) (hsl : ∀ j ∈ sl, j ∈ own.map (·.2))
    (ht : ∀ (s : Shared) (H : Hp) (C : Addr) (cl : List (Str × Addr)) (fp : List Addr), ∃ t, STs (X.blk s H scope (compEnvC scope cl C X.env) fp) W0 ifs t wt)
    (he : ∀ (s : Shared) (H : Hp) (C : Addr) (cl : List (Str × Addr)) (fp : List Addr), ∃ t, SE (X.blk s H scope (compEnvC scope cl C X.env) fp) W0 elt t we) (hs : ∀ x, foldedSetIterable iter X.env x = pure x := by intro _; rfl) :
    SS X W (.Assign [.Name y py] (.ListComp elt [⟨tg, iter, ifs, 0⟩] scope pos) spos) (tAsg (tLc (iList X.K (tVar k)) (gG X.K wg sl) (tT X.K W0 wt) (tE X.K W0 we) (own.map (·.2))) (gName i)) (wSet i (wLcN k (own.map (·.2)) wg wt we)) := by
  refine ⟨ps_setLc hc hN hy hyl hsw (pi_list hi) ok (fun s H C cl fp => let ⟨_, h⟩ := hg s H C cl fp; h.own) (fun s H C cl fp => let ⟨_, h⟩ := ht s H C cl fp; h.own) (fun s H C cl fp => let ⟨_, h⟩ := he s H C cl fp; h.own) hs, fun E F H σ a D DA R hw l => ?_⟩
  refine lcN_ok (W := W) hi (fun E F H σ a v d Q q R rp hw l => ⟨E, F, a, d, q, R, rp, hw, l⟩) hsl (fun E F H σ a Q q qe R hw l lx => ⟨E, F, a, q, qe, R, hw, l, lx⟩) (fun E F H σ a Q q qe R hw l lx => ⟨E, F, a, q, qe, R, hw, l, lx⟩) E F H σ a _ _ _ R hw (fun v r F' H' a' e R' rp q => ?_) (l.ex σ)
  obtain ⟨F2, a2, s, R2, hk⟩ := sto_ok R' rp q
  exact l.nx _ F2 H' a2 (e.trans s) R2 hk
end
section
variable {X : Cx} {W : L2.St → XK} {b e : Expr} {pos : Pos} {tb ta : TE} {wk w : WE}
/-- x.insert(k, e) -/
def wIns (i : Nat) (wk w : WE) : WS := fun D a => onOwn a[i]? fun _ _ => wk a (fun rk a1 => onI (con a1 rk) fun j => w a1 (fun r a2 => fz r a2 fun d a3 => onOwn a3[i]? fun o xs =>
  (xs.length < sizeLine ∧ 0 ≤ j ∧ j < 2 ^ 63) ∧ D.nx (a3.set i (some ⟨o, .lst (xs.take j.toNat ++ [d] ++ xs.drop j.toNat)⟩))) D.ex) D.ex
theorem ss_insert {i : Nat} {o : Expr} {apos cpos : Pos} (ho : PE X o (tVar i)) (hk : SE X W b tb wk) (h : SE X W e ta w) (hbase : attributeBase o "insert" X.env (eval o X.env) = eval o X.env := by rfl)
    (hfew : ((backTo cpos (starEach [b, e] X.env)).all (fun x => !x.1) && (backToKw cpos (keywordEach [] X.env)).all (fun x => x.1.isSome) && decide (([b, e] : List Expr).length + ([] : List Keyword).length + (if ([] : List Keyword).isEmpty then 0 else 1) < 30)) = true := by rfl)
    (hline : (apos.endLine == cpos.line) = true := by rfl) (hst : starEach [b, e] X.env = (false, eval b X.env) :: starEach [e] X.env := by rfl) (hst2 : starEach [e] X.env = (false, eval e X.env) :: starEach [] X.env := by rfl) (hplain : (backTo cpos (starEach [e] X.env)).any (·.1) = false := by rfl)
    (hs : swapsWith (.Call (.Attribute o "insert" apos) [b, e] [] cpos) none pos.line X.env = pure false := by rfl) :
    SS X W (.Expr (.Call (.Attribute o "insert" apos) [b, e] [] cpos) pos) (tDrop (tBM X.K "list" (fun x vs H Q => ∃ (l : Addr) (xs : List V) (i : Int) (y : V), x = .ref l ∧ vs = [.int i, y] ∧ H l = some (.lst xs) ∧ xs.length < sizeLine ∧ 0 ≤ i ∧ i < 2 ^ 63 ∧
    Q .non (upd H l (.lst (xs.take i.toNat ++ [y] ++ xs.drop i.toNat)))) (tVar i) (tCons tb (tCons ta tNil)))) (wIns i wk w) := by
  refine ⟨ps_expr (pe_bm PySem.F.plainAttrs_list PySem.F.slot_list_insert PySem.F.type_list_insert mt_insert ho (pa_cons hk.1 (pa_cons h.1 pa_nil hst2) hst) hbase hfew hline hst hplain) hs, fun E F H σ a D DA R hw l => ?_⟩
  obtain ⟨o, xs, ha, _, hw⟩ := onOwn_iff.mp hw
  obtain ⟨p, vs, hv, hp, _⟩ := slot_list R ha
  refine ⟨.ref p, hv, .inl ⟨rfl, vs, .of hp⟩, hk.2 E F H σ a _ _ _ R hw (fun uk rk F1 H1 a1 e1 R1 rpk q1 => ?_) (l.ex σ)⟩
  obtain ⟨j, c, q1⟩ := onI_iff.mp q1
  obtain rfl := (rd_of R1 rpk c).int
  refine h.2 E F1 H1 σ a1 _ _ _ R1 q1 (fun u r F' H' a' e R' rp q => ?_) ((l.ex σ).to e1)
  obtain ⟨F2, a2, d, s, R2, rp2, q2⟩ := fz_ok R' rp q
  obtain ⟨o', ys, h2, ho', ⟨hz, h0, h1⟩, hk'⟩ := onOwn_iff.mp q2
  obtain ⟨p', ws, hv', hp', r'⟩ := slot_list R2 h2
  rw [hv] at hv'
  cases hv'
  refine ⟨p, ws, j, u, rfl, rfl, hp', by rw [r'.length]; exact hz, h0, h1, ?_⟩
  exact l.nx _ F2 _ _ ((e1.trans e).trans s) (R2.write h2 ho' hv (.lst (((r'.take _).append (.cons rp2 .nil)).append (r'.drop _)))) hk'
end
/-! ### is True, is not True, of a bool -/
def rIsB (neg : Bool) : R2 := fun x y H Q => ∃ a b, x = .bl a ∧ y = .bl b ∧ Q (.bl (if neg then !decide (a = b) else decide (a = b))) H
theorem op_isB {X : Cx} : OpR X (compareOp .Is) (rIsB false) := by
  intro pins s σ H x y v u Q I rx ry h
  obtain ⟨a, b, rfl, rfl, q⟩ := h
  cases rx
  cases ry
  cases a <;> cases b <;> exact wpAny_pure ⟨.bl _, H, I, rfl, q⟩
theorem op_notB {X : Cx} : OpR X (compareOp .IsNot) (rIsB true) := by
  intro pins s σ H x y v u Q I rx ry h
  obtain ⟨a, b, rfl, rfl, q⟩ := h
  cases rx
  cases ry
  cases a <;> cases b <;> exact wpAny_pure ⟨.bl _, H, I, rfl, q⟩
def dIsB : DOp := fun x y k => match x, y with
  | .bl a, .bl b => k (.dat (.bl (decide (a = b))))
  | _, _ => False
def dNotB : DOp := fun x y k => match x, y with
  | .bl a, .bl b => k (.dat (.bl (!decide (a = b))))
  | _, _ => False
theorem dIsB_ok {K : PySem.W.Frag} : OpS K (rIsB false) dIsB := by
  intro E F H σ a v1 v2 x y Q k R h1 h2 ho l
  unfold dIsB at ho
  split at ho
  · exact ⟨_, _, h1.bl, h2.bl, l _ (.dat _) F H (Same.refl F) R (Rep.bl _) ho⟩
  · exact ho.elim
theorem dNotB_ok {K : PySem.W.Frag} : OpS K (rIsB true) dNotB := by
  intro E F H σ a v1 v2 x y Q k R h1 h2 ho l
  unfold dNotB at ho
  split at ho
  · exact ⟨_, _, h1.bl, h2.bl, l _ (.dat _) F H (Same.refl F) R (Rep.bl _) ho⟩
  · exact ho.elim
end DS

namespace DS
open PySem PySem.Spec PyProof.Rows L2
/-! ### loops whose invariant speaks of the state ahead of them -/
theorem for_v {items : List D} {wg : WG} {wb : WS} {D : EndsA} {a : PSt} (J : Nat → PSt → PSt → Prop) (h0 : J 0 a a)
    (hs : ∀ i a2 d, items[i]? = some d → J i a a2 → wg d a2 fun a3 => wb { D with nx := J (i + 1) a, ct := J (i + 1) a, bk := D.nx } a3) (he : ∀ a2, J items.length a a2 → D.nx a2) : forS items wg wb D a :=
  for_i (fun i a2 => J i a a2) h0 hs he
theorem for_rv {lo : Int} {n : Nat} {wg : WG} {wb : WS} {D : EndsA} {a : PSt} (J : Nat → PSt → PSt → Prop) (h0 : J 0 a a)
    (hs : ∀ i a2, i < n → J i a a2 → wg (.int (lo + i)) a2 fun a3 => wb { D with nx := J (i + 1) a, ct := J (i + 1) a, bk := D.nx } a3) (he : ∀ a2, J n a a2 → D.nx a2) : forS (rangeD lo n) wg wb D a :=
  for_r (fun i a2 => J i a a2) h0 hs he
theorem for_lv {k : Nat} {items : List D} {wg : WG} {wb : WS} {D : EndsA} {a : PSt} (J : Nat → PSt → PSt → Prop) (h0 : J 0 a a) (hk : ∀ i a2, J i a a2 → a2[k]? = some (some ⟨.lent, .lst items⟩))
    (hs : ∀ i a2 d, items[i]? = some d → J i a a2 → wg d a2 fun a3 => wb { D with nx := J (i + 1) a, ct := J (i + 1) a, bk := D.nx } a3) (he : ∀ a2, J items.length a a2 → D.nx a2) : forL k items wg wb D a :=
  for_l (fun i a2 => J i a a2) h0 hk hs he
theorem while_v {wt : WT} {wb : WS} {D : EndsA} {a : PSt} (J : Nat → PSt → PSt → Prop) (m : Nat) (h0 : J m a a)
    (hs : ∀ m a1, J m a a1 → wt a1 (fun k a2 => br k (wb { D with nx := fun a3 => ∃ m', m' < m ∧ J m' a a3, ct := fun a3 => ∃ m', m' < m ∧ J m' a a3, bk := D.nx } a2) (D.nx a2)) D.ex) : whileS wt wb D a :=
  while_i (fun m a1 => J m a a1) m h0 hs
theorem lc_v {items : List D} {vs : List Nat} {wg : WG} {wt : WT} {we : WE} {a1 : PSt} {q : Res → PSt → Prop} (J : Nat → List D → PSt → PSt → Prop) (h0 : J 0 [] a1 a1)
    (hs : ∀ i acc a2 d, items[i]? = some d → J i acc a1 a2 → wg d (wipeA a2 vs) fun a3 => wt a3 (fun b a4 => br b
    (we a4 (fun r a5 => fz r a5 fun y a6 => acc.length < sizeLine ∧ J (i + 1) (acc ++ [y]) a1 (wipeA a6 vs)) (fun _ _ => False)) (J (i + 1) acc a1 (wipeA a4 vs))) (fun _ _ => False))
    (he : ∀ acc a2, J items.length acc a1 a2 → q (.new (.lst acc)) (keepNo a1 vs a2)) : lcS items vs wg wt we a1 q :=
  lc_i (fun i acc a2 => J i acc a1 a2) h0 hs he
theorem lc_rv {lo : Int} {n : Nat} {vs : List Nat} {wg : WG} {wt : WT} {we : WE} {a1 : PSt} {q : Res → PSt → Prop} (J : Nat → List D → PSt → PSt → Prop) (h0 : J 0 [] a1 a1)
    (hs : ∀ i acc a2, i < n → J i acc a1 a2 → wg (.int (lo + i)) (wipeA a2 vs) fun a3 => wt a3 (fun b a4 => br b
    (we a4 (fun r a5 => fz r a5 fun y a6 => acc.length < sizeLine ∧ J (i + 1) (acc ++ [y]) a1 (wipeA a6 vs)) (fun _ _ => False)) (J (i + 1) acc a1 (wipeA a4 vs))) (fun _ _ => False))
    (he : ∀ acc a2, J n acc a1 a2 → q (.new (.lst acc)) (keepNo a1 vs a2)) : lcS (rangeD lo n) vs wg wt we a1 q :=
  lc_i (fun i acc a2 => J i acc a1 a2) h0 (fun i acc a2 d h hi => by
    obtain ⟨h1, rfl⟩ := rangeD_get.mp h
    exact hs i acc a2 h1 hi) (fun acc a2 h => he acc a2 (by rw [rangeD_len] at h; exact h))
theorem wipe_set {v : Nat} {u : Option AV} : ∀ {a : PSt} {vs : List Nat}, v ∈ vs → wipeA (a.set v u) vs = wipeA a vs
  | a, w :: vs, h => by
    unfold wipeA
    by_cases e : v = w
    · subst e
      by_cases h2 : v ∈ vs
      · rw [wipe_set h2]
      · have : ∀ (vs : List Nat), v ∉ vs → wipeA (a.set v u) vs = (wipeA a vs).set v u := by
          intro vs
          induction vs with
          | nil => intro _; rfl
          | cons x vs ih =>
            intro hn
            rw [List.mem_cons, not_or] at hn
            unfold wipeA
            rw [ih hn.2]
            exact List.set_comm _ _ hn.1
        rw [this vs h2, List.set_set]
    · rw [wipe_set (by rcases List.mem_cons.mp h with h | h; exact absurd h e; exact h)]
theorem wipe_wipe {a : PSt} {vs : List Nat} : ∀ {ws : List Nat}, (∀ w ∈ ws, w ∈ vs) → wipeA (wipeA a ws) vs = wipeA a vs
  | [], _ => rfl
  | w :: ws, h => by
    show wipeA ((wipeA a ws).set w none) vs = _
    rw [wipe_set (h w (List.mem_cons_self ..)), wipe_wipe fun x hx => h x (List.mem_cons_of_mem _ hx)]
theorem keep_set {a1 : PSt} {v : Nat} {u : Option AV} : ∀ {a : PSt} {vs : List Nat}, v ∈ vs → keepNo a1 vs (a.set v u) = keepNo a1 vs a
  | a, w :: vs, h => by
    unfold keepNo
    by_cases e : v = w
    · subst e
      by_cases h2 : v ∈ vs
      · rw [keep_set h2]
      · have : ∀ (vs : List Nat), v ∉ vs → keepNo a1 vs (a.set v u) = (keepNo a1 vs a).set v u := by
          intro vs
          induction vs with
          | nil => intro _; rfl
          | cons x vs ih =>
            intro hn
            rw [List.mem_cons, not_or] at hn
            unfold keepNo
            rw [ih hn.2]
            exact List.set_comm _ _ hn.1
        rw [this vs h2, List.set_set]
    · rw [keep_set (by rcases List.mem_cons.mp h with h | h; exact absurd h e; exact h)]
theorem keep_wipe {a1 a : PSt} {vs : List Nat} : ∀ {ws : List Nat}, (∀ w ∈ ws, w ∈ vs) → keepNo a1 vs (wipeA a ws) = keepNo a1 vs a
  | [], _ => rfl
  | w :: ws, h => by
    show keepNo a1 vs ((wipeA a ws).set w none) = _
    rw [keep_set (h w (List.mem_cons_self ..)), keep_wipe fun x hx => h x (List.mem_cons_of_mem _ hx)]
/-- a comprehension without a test that leaves the state alone -/
theorem lc_map {items : List D} {vs : List Nat} {wg : WG} {we : WE} {a1 : PSt} {q : Res → PSt → Prop} (f : D → D) (hl : items.length ≤ 16000000)
    (hs : ∀ (i : Nat) (d : D), items[i]? = some d → ∀ P : D → PSt → Prop, (∀ a6, wipeA a6 vs = wipeA a1 vs → P (f d) a6) → wg d (wipeA a1 vs) fun a3 => we a3 (fun r a5 => fz r a5 P) (fun _ _ => False))
    (he : q (.new (.lst (items.map f))) (keepNo a1 vs a1)) : lcS items vs wg wtYes we a1 q := by
  refine lc_i (fun i acc a => (a = a1 ∨ a = wipeA a1 vs) ∧ acc = (items.take i).map f) ⟨.inl rfl, rfl⟩ ?_ ?_
  · rintro i acc a d hi ⟨ha, rfl⟩
    have e : wipeA a vs = wipeA a1 vs := by
      rcases ha with rfl | rfl
      · rfl
      · exact wipe_wipe fun w hw => hw
    have hlt := (List.getElem?_eq_some_iff.mp hi).1
    rw [e]
    refine hs i d hi _ fun a6 h6 => ⟨smaller (by rw [List.length_map, List.length_take]; omega), .inr h6, ?_⟩
    rw [List.take_add_one, hi, Option.toList_some, List.map_append]
    rfl
  · rintro acc a ⟨ha, rfl⟩
    rw [List.take_length]
    have e : keepNo a1 vs a = keepNo a1 vs a1 := by
      rcases ha with rfl | rfl
      · rfl
      · exact keep_wipe fun w hw => hw
    rw [e]
    exact he
/-- .. over a list that is lent -/
theorem lcl_map {k : Nat} {items : List D} {vs : List Nat} {wg : WG} {we : WE} {a1 : PSt} {q : Res → PSt → Prop} (f : D → D) (hl : items.length ≤ 16000000) (hk : a1[k]? = some (some ⟨.lent, .lst items⟩)) (hv : k ∉ vs)
    (hs : ∀ (i : Nat) (d : D), items[i]? = some d → ∀ P : D → PSt → Prop, (∀ a6, wipeA a6 vs = wipeA a1 vs → P (f d) a6) → wg d (wipeA a1 vs) fun a3 => we a3 (fun r a5 => fz r a5 P) (fun _ _ => False))
    (he : q (.new (.lst (items.map f))) (keepNo a1 vs a1)) : lcL k items vs wg wtYes we a1 q := by
  refine lc_l (fun i acc a => (a = a1 ∨ a = wipeA a1 vs) ∧ acc = (items.take i).map f) ⟨.inl rfl, rfl⟩ ?_ ?_ ?_
  · rintro i acc a ⟨rfl | rfl, _⟩
    · exact hk
    · have : ∀ (ws : List Nat), k ∉ ws → (wipeA a1 ws)[k]? = a1[k]? := by
        intro ws
        induction ws with
        | nil => intro _; rfl
        | cons x ws ih =>
          intro hn
          rw [List.mem_cons, not_or] at hn
          unfold wipeA
          rw [List.getElem?_set_ne (fun z => hn.1 z.symm), ih hn.2]
      rw [this vs hv]
      exact hk
  · rintro i acc a d hi ⟨ha, rfl⟩
    have e : wipeA a vs = wipeA a1 vs := by
      rcases ha with rfl | rfl
      · rfl
      · exact wipe_wipe fun w hw => hw
    have hlt := (List.getElem?_eq_some_iff.mp hi).1
    rw [e]
    refine hs i d hi _ fun a6 h6 => ⟨smaller (by rw [List.length_map, List.length_take]; omega), .inr h6, ?_⟩
    rw [List.take_add_one, hi, Option.toList_some, List.map_append]
    rfl
  · rintro acc a ⟨ha, rfl⟩
    rw [List.take_length]
    have e : keepNo a1 vs a = keepNo a1 vs a1 := by
      rcases ha with rfl | rfl
      · rfl
      · exact keep_wipe fun w hw => hw
    rw [e]
    exact he
end DS

namespace DS
open PySem PySem.Spec PyProof.Rows L2
/-! ### a walk of a dict: it is locked for good -/
def iKeysL (td : TE) : TI := fun σ H R => td σ H fun x H1 => ∃ d, x = .ref d ∧ ((∃ kvs, H1 d = some (.dK kvs) ∧ ∀ o, R (Itk d o kvs) (upd H1 d (.frz o (.dK kvs)))) ∨ (∃ kvs, H1 d = some (.dT kvs) ∧ ∀ o, R (Itkt d o kvs) (upd H1 d (.frz o (.dT kvs)))) ∨
  (∃ o kvs, H1 d = some (.frz o (.dK kvs)) ∧ R (Itk d o kvs) H1) ∨ ∃ o kvs, H1 d = some (.frz o (.dT kvs)) ∧ R (Itkt d o kvs) H1)
theorem pi_keysL {X : Cx} {tg e : Expr} {td : TE} (he : PE X e td) : PI X tg e (iKeysL td) := by
  refine ⟨fun pins s σ H R I h => ?_⟩
  have goK : ∀ {s1 : Shared} {H1 : Hp} {d : Addr} {o : Obj} {kvs : List (L2.Key × V)}, Inv X pins σ H1 s1 → H1 d = some (.frz o (.dK kvs)) → R (Itk d o kvs) H1 → wpAny (model X.prog X.w) X.A (pyIter (.ref d)) (PIE X pins σ tg R) X.xe s1 := by
    intro s1 H1 d o kvs I1 hd q
    obtain ⟨hs, hgd, hx, es, ep, vs, hdt, hsz, kv, hm⟩ := I1.frzK hd
    refine iter_keys hs hgd hx hdt (pi_one (tk := s1.toks) I1 _ (turn_keys _ hdt) ⟨_, Heap.get?_push_size _ rfl, rfl, ?_⟩ q)
    rw [hsz] <;> rfl
  have goT : ∀ {s1 : Shared} {H1 : Hp} {d : Addr} {o : Obj} {kvs : List (List L2.Key × V)}, Inv X pins σ H1 s1 → H1 d = some (.frz o (.dT kvs)) → R (Itkt d o kvs) H1 → wpAny (model X.prog X.w) X.A (pyIter (.ref d)) (PIE X pins σ tg R) X.xe s1 := by
    intro s1 H1 d o kvs I1 hd q
    obtain ⟨hs, hgd, hx, es, ep, hdt, hsz, ent⟩ := I1.frzT hd
    refine iter_keys hs hgd hx hdt (pi_one (tk := s1.toks) I1 _ (turn_keysT _ hdt) ⟨_, Heap.get?_push_size _ rfl, rfl, ?_⟩ q)
    rw [hsz] <;> rfl
  refine thn (he.run pins s σ H _ I h) fun u s1 ⟨x, H1, I1, rx, d, ex, q⟩ => ?_
  subst ex
  obtain rfl : u = Value.ref d := rx
  rcases q with ⟨kvs, hd, q⟩ | ⟨kvs, hd, q⟩ | ⟨o, kvs, hd, q⟩ | ⟨o, kvs, hd, q⟩
  · obtain ⟨o, I2⟩ := I1.lock hd trivial
    exact goK I2 upd_same (q o)
  · obtain ⟨o, I2⟩ := I1.lock hd trivial
    exact goT I2 upd_same (q o)
  · exact goK I1 hd q
  · exact goT I1 hd q
def kD : L2.Key → D
  | .inl i => .int i
  | .inr x => .str x
def kTD (ks : List L2.Key) : D := .tup (ks.map kD)
theorem rep_kD {K : PySem.W.Frag} {F : Hp} (k : L2.Key) : Rep K F (kV k) (kD k) := by
  cases k with
  | inl i => exact .int i
  | inr x => exact .str x
theorem reps_kD {K : PySem.W.Frag} {F : Hp} : ∀ ks : List L2.Key, Reps K F (ks.map kV) (ks.map kD)
  | [] => .nil
  | k :: ks => .cons (rep_kD k) (reps_kD ks)
theorem RepA.get {K : PySem.W.Frag} {F : Hp} {κ : Type} : ∀ {vs : List (κ × V)} {ds : List (κ × D)} {i : Nat} {k : κ} {v : V}, RepA K F vs ds → vs[i]? = some (k, v) → ∃ d, ds[i]? = some (k, d)
  | _, _, _, _, _, .nil, e => by simp at e
  | _, _, 0, _, _, .cons r _, e => by simp at e; obtain ⟨rfl, rfl⟩ := e; exact ⟨_, rfl⟩
  | _, _, i + 1, k, v, .cons _ t, e => by
    obtain ⟨d, h1⟩ := RepA.get (i := i) (k := k) (v := v) t (by simpa using e)
    exact ⟨d, by simpa using h1⟩
theorem itk_ok {K : PySem.W.Frag} {F1 : Hp} {p : Addr} {o : Obj} {vs : List (L2.Key × V)} {ds : List (L2.Key × D)} (hs : F1 p = some (.frz o (.dK vs))) (r : RepA K F1 vs ds) : ItR K F1 (Itk p o vs) (ds.map fun e => kD e.1) where
  go := fun i E σ a F H e R hi => ⟨R.ext _ _ (e _ _ hs), by rw [r.length]; simpa using hi⟩
  stop := fun E σ a F H e R => ⟨R.ext _ _ (e _ _ hs), by rw [r.length]; simp⟩
  yld := fun i E σ a F H x H' e R hi y => by
    obtain ⟨rfl, k, v, h1, rfl⟩ := y
    obtain ⟨d, h2⟩ := r.get h1
    exact ⟨F, kD k, Same.refl F, R, by rw [List.getElem?_map, h2]; rfl, rep_kD k⟩
/-- a tuple that stands is taken into the frozen part -/
theorem Rel.takeTup {K : PySem.W.Frag} {E : En} {F H : Hp} {σ : L2.St} {a : PSt} (R : Rel K E F H σ a) {q : Addr} {xs : List V} (hq : H q = some (.tup xs)) : ∃ F', Same F F' ∧ Rel K E F' H σ a ∧ F' q = some (.tup xs) := by
  cases hF : F q with
  | some u =>
    have := R.ext q u hF
    rw [hq] at this
    cases this
    exact ⟨F, Same.refl F, R, hF⟩
  | none =>
    have s : Same F (upd F q (.tup xs)) := fun b u e => by rw [upd_ne (ne_of_none e hF)]; exact e
    refine ⟨upd F q (.tup xs), s, ⟨fun b u e => ?_, R.f0.trans s, fun b u e => ?_, R.keep, R.dom, R.lt, R.len, fun i av e => ?_, R.dis⟩, upd_same⟩
    · by_cases hb : b = q
      · subst hb; rw [upd_same] at e; cases e; exact hq
      · rw [upd_ne hb] at e; exact R.ext _ _ e
    · by_cases hb : b = q
      · subst hb; rw [upd_same] at e; cases e; exact .inr (.inr ⟨xs, rfl⟩)
      · rw [upd_ne hb] at e; exact R.new _ _ e
    · obtain ⟨v, e1, h⟩ := R.sl i av e
      refine ⟨v, e1, h.mono s fun p hp ho hpF => ?_⟩
      have hpq : p ≠ q := fun z => by
        subst z
        obtain ⟨o, t1, t2⟩ := (hp ▸ h : OwnAt K E F H i (.ref p) av).top ho
        rw [hq] at t1
        cases t1
        cases t2
      rw [upd_ne hpq]
      exact hpF
theorem itkt_ok {K : PySem.W.Frag} {F1 : Hp} {p : Addr} {o : Obj} {vs : List (List L2.Key × V)} {ds : List (List L2.Key × D)} (hs : F1 p = some (.frz o (.dT vs))) (r : RepA K F1 vs ds) : ItR K F1 (Itkt p o vs) (ds.map fun e => kTD e.1) where
  go := fun i E σ a F H e R hi => ⟨R.ext _ _ (e _ _ hs), by rw [r.length]; simpa using hi⟩
  stop := fun E σ a F H e R => ⟨R.ext _ _ (e _ _ hs), by rw [r.length]; simp⟩
  yld := fun i E σ a F H x H' e R hi y => by
    obtain ⟨rfl, k, v, q, h1, rfl, hq⟩ := y
    obtain ⟨d, h2⟩ := r.get h1
    obtain ⟨F2, s, R2, h3⟩ := R.takeTup hq
    exact ⟨F2, kTD k, s, R2, by rw [List.getElem?_map, h2]; rfl, .tup h3 (reps_kD k)⟩
/-- for k in d: the dict of a slot is locked from here on -/
def wiKeys (i : Nat) : WI := fun a q _ => match a[i]? with
  | some (some ⟨.own, .dT ds⟩) => q (ds.map fun e => kTD e.1) (a.set i (some ⟨.no, .lT ds⟩))
  | some (some ⟨.own, .dK ds⟩) => q (ds.map fun e => kD e.1) (a.set i (some ⟨.no, .lK ds⟩))
  | some (some ⟨.no, .lT ds⟩) => q (ds.map fun e => kTD e.1) a
  | some (some ⟨.no, .lK ds⟩) => q (ds.map fun e => kD e.1) a
  | _ => False
section
variable {X : Cx} {W : L2.St → XK} {tg l e a b c : Expr} {pos : Pos} {ta tb tc tl te : TE} {la : TA} {w w1 w2 w3 : WE} {ws : WA}
theorem si_keys {i : Nat} (h : PE X l (tVar i)) : SI X W tg l (iKeysL (tVar i)) (wiKeys i) := by
  refine ⟨pi_keysL h, fun E F H σ a R q qe Rl hw lk lx => ?_⟩
  unfold wiKeys at hw
  split at hw
  · rename_i ds hi
    obtain ⟨v, hσ, p, rfl, hF, hE, o, ho, t⟩ := Rl.sl i _ hi
    cases t with
    | @dT vs _ r =>
      refine ⟨.ref p, hσ, p, rfl, .inr (.inl ⟨vs, ho, fun od => ?_⟩)⟩
      have R1 := Rl.write (o := .frz od (.dT vs)) (c := .lT ds) hi (by simp) hσ (.lT r)
      obtain ⟨F2, s, R2, hr⟩ := R1.giveUp (i := i) (c := .lT ds) (by rw [List.getElem?_set_self (List.getElem?_eq_some_iff.mp hi).1])
      have rp := hr _ hσ
      rw [List.set_set] at R2
      cases rp with
      | lT hf r2 =>
        have := R2.ext _ _ hf
        rw [upd_same] at this
        cases this
        exact lk _ _ F2 _ _ s R2 (itkt_ok hf r2) hw
  · rename_i ds hi
    obtain ⟨v, hσ, p, rfl, hF, hE, o, ho, t⟩ := Rl.sl i _ hi
    cases t with
    | @dK vs _ r =>
      refine ⟨.ref p, hσ, p, rfl, .inl ⟨vs, ho, fun od => ?_⟩⟩
      have R1 := Rl.write (o := .frz od (.dK vs)) (c := .lK ds) hi (by simp) hσ (.lK r)
      obtain ⟨F2, s, R2, hr⟩ := R1.giveUp (i := i) (c := .lK ds) (by rw [List.getElem?_set_self (List.getElem?_eq_some_iff.mp hi).1])
      have rp := hr _ hσ
      rw [List.set_set] at R2
      cases rp with
      | lK hf r2 =>
        have := R2.ext _ _ hf
        rw [upd_same] at this
        cases this
        exact lk _ _ F2 _ _ s R2 (itk_ok hf r2) hw
  · rename_i ds hi
    obtain ⟨v, hσ, rp⟩ := Rl.sl i _ hi
    have rp : Rep X.K F v (.lT ds) := rp
    cases rp with
    | lT hf r => exact ⟨_, hσ, _, rfl, .inr (.inr (.inr ⟨_, _, Rl.ext _ _ hf, lk _ _ F H a (Same.refl F) Rl (itkt_ok hf r) hw⟩))⟩
  · rename_i ds hi
    obtain ⟨v, hσ, rp⟩ := Rl.sl i _ hi
    have rp : Rep X.K F v (.lK ds) := rp
    cases rp with
    | lK hf r => exact ⟨_, hσ, _, rfl, .inr (.inr (.inl ⟨_, _, Rl.ext _ _ hf, lk _ _ F H a (Same.refl F) Rl (itk_ok hf r) hw⟩))⟩
  · exact hw.elim
/-! ### tuples of ints, compared -/
def intsOf : List D → Option (List Int)
  | [] => some []
  | .int i :: ds => (intsOf ds).map (i :: ·)
  | _ => none
theorem ints_of {K : PySem.W.Frag} {F : Hp} : ∀ {ds : List D} {ns : List Int} {vs : List V}, intsOf ds = some ns → Reps K F vs ds → vs = ns.map V.int
  | [], ns, vs, h, r => by cases h; cases r; rfl
  | .int i :: ds, ns, vs, h, r => by
    obtain ⟨ms, h1, rfl⟩ := Option.map_eq_some_iff.mp h
    cases r with
    | cons r t => cases r; rw [List.map_cons, ints_of h1 t]
theorem intsOf_map (ns : List Int) : intsOf (ns.map D.int) = some ns := by
  induction ns with
  | nil => rfl
  | cons n ns ih => rw [List.map_cons, intsOf, ih]; rfl
def rLtA (K : PySem.W.Frag) : R2 := fun x y H Q => rI0 (fun i j => .bl (decide (i < j))) x y H Q ∨ rLtT K x y H Q
theorem op_ltA (hu : X.A.units < cLine) : OpR X (compareOp .Lt) (rLtA X.K) := op_lt.or (op_ltT hu)
def dLtA : DOp := fun x y k => match x, y with
  | .int i, .int j => k (.dat (.bl (decide (i < j))))
  | .tup xs, .tup ys => onO (intsOf xs) fun ns => onO (intsOf ys) fun ms => k (.dat (.bl (HT.lexLt ns ms)))
  | _, _ => False
theorem dLtA_ok {K : PySem.W.Frag} : OpS K (rLtA K) dLtA := by
  intro E F H σ a v1 v2 x y Q k R h1 h2 ho l
  unfold dLtA at ho
  split at ho
  · exact .inl ⟨_, _, h1.int, h2.int, l _ (.dat _) F H (Same.refl F) R (Rep.bl _) ho⟩
  · obtain ⟨ns, e1, ho⟩ := onO_iff.mp ho
    obtain ⟨ms, e2, ho⟩ := onO_iff.mp ho
    obtain ⟨p, vs, rfl, hp, r1⟩ := h1.tup R.ext
    obtain ⟨q, ws, rfl, hq, r2⟩ := h2.tup R.ext
    obtain rfl := ints_of e1 r1
    obtain rfl := ints_of e2 r2
    exact .inr ⟨p, q, ns, ms, rfl, rfl, .of hp, .of hq, l _ (.dat _) F H (Same.refl F) R (Rep.bl _) ho⟩
  · exact ho.elim
/-! ### methods that read -/
def tyN (T : String) : D → Bool
  | .str _ => T == "str"
  | .lst _ => T == "list"
  | .rol _ => T == "list"
  | .dK _ => T == "dict"
  | .dT _ => T == "dict"
  | _ => false
def MtS (K : PySem.W.Frag) (r : V → List V → Hp → VK → Prop) (op : D → DCall) : Prop :=
  ∀ E F H σ a v vs x ds Q k, Rel K E F H σ a → RdD K F H v x → Paired (RdD K F H) vs ds → op x ds k → (∀ v r F' H', Same F F' → Rel K E F' H' σ a → RepR K E F' H' σ a v r → k r → Q v H') → r v vs H Q
theorem RdD.tyN {K : PySem.W.Frag} {E : En} {F H : Hp} {σ : L2.St} {a : PSt} {v : V} {x : D} {T : String} (R : Rel K E F H σ a) (h : RdD K F H v x) (ht : DS.tyN T x = true) : tyV K T v H := by
  cases x with
  | str z => obtain rfl := h.str; exact eq_of_beq ht
  | lst xs => obtain ⟨p, vs, rfl, hp, _⟩ := h.lst R.ext; exact .inl ⟨eq_of_beq ht, vs, .of hp⟩
  | rol xs => obtain ⟨p, vs, rfl, hp, _⟩ := h.rol R.ext; exact .inl ⟨eq_of_beq ht, vs, hp⟩
  | dK xs => obtain ⟨p, vs, rfl, hp, _⟩ := h.dK R.ext; exact .inr (.inr (.inl ⟨eq_of_beq ht, .inl ⟨vs, hp⟩⟩))
  | dT xs => obtain ⟨p, vs, rfl, hp, _⟩ := h.dT R.ext; exact .inr (.inr (.inl ⟨eq_of_beq ht, .inr ⟨vs, hp⟩⟩))
  | _ => cases ht
def wMt (T : String) (op : D → DCall) (w : WE) (ws : WA) : WE := fun a q qe => w a (fun r a1 => onO (con a1 r) fun x0 => tyN T x0 = true ∧ ws a1 (fun rs a2 => onO (con a2 (hold r)) fun x => onO (conts a2 rs) fun ds => op x ds fun r => q r a2) qe) qe
def wMt0 (T : String) (op : D → DCall) (w : WE) : WE := fun a q qe => w a (fun r a1 => onO (con a1 r) fun x => tyN T x = true ∧ op x [] fun r => q r a1) qe
theorem se_mt {o e : Expr} {es : List Expr} {to : TE} {t : TA} {name : Str} {apos cpos : Pos} {T id : String} {r : V → List V → Hp → VK → Prop} {op : D → DCall} (pa : PlainAttrs T) (slot : Slot T name id) (hty : typeOf (.builtin id) = pure (.type "method_descriptor")) (hm : MtR X id r) (hs : MtS X.K r op) (ho : SE X W o to w) (ha : SA X W (e :: es) t ws)
    (hbase : attributeBase o name X.env (eval o X.env) = eval o X.env := by rfl)
    (hfew : ((backTo cpos (starEach (e :: es) X.env)).all (fun x => !x.1) && (backToKw cpos (keywordEach [] X.env)).all (fun x => x.1.isSome)
      && decide ((e :: es).length + ([] : List Keyword).length + (if ([] : List Keyword).isEmpty then 0 else 1) < 30)) = true := by rfl)
    (hline : (apos.endLine == cpos.line) = true := by rfl) (hst : starEach (e :: es) X.env = (false, eval e X.env) :: starEach es X.env := by rfl) (hplain : (backTo cpos (starEach es X.env)).any (·.1) = false := by rfl) :
    SE X W (.Call (.Attribute o name apos) (e :: es) [] cpos) (tBM X.K T r to t) (wMt T op w ws) := by
  refine ⟨pe_bm pa slot hty hm ho.1 ha.1 hbase hfew hline hst hplain, fun E F H σ a Q q qe R hw l lx => ?_⟩
  refine ho.2 E F H σ a _ _ qe R hw (fun v1 r1 F1 H1 a1 e1 R1 rp hw1 => ?_) lx
  obtain ⟨x0, c0, ht, hw1⟩ := onO_iff.mp hw1
  refine ⟨(rd_of R1 rp c0).tyN R1 ht, ?_⟩
  obtain ⟨F1', e1', R1', rp'⟩ := hold_ok R1 rp
  refine ha.2 E F1' H1 σ a1 _ _ qe R1' hw1 (fun vs rs F2 H2 a2 e2 R2 rps hn hq => ?_) (lx.to (e1.trans e1'))
  obtain ⟨x, c1, hq⟩ := onO_iff.mp hq
  obtain ⟨ds, c2, hop⟩ := onO_iff.mp hq
  exact hs E F2 H2 σ a2 v1 vs x ds Q _ R2 (rd_of R2 (held_on e2 rp') c1) (conts_rd R2 rps c2) hop fun v r F' H' e' R' rp k => l v r F' H' a2 (((e1.trans e1').trans e2).trans e') R' rp k
theorem se_mt0 {o : Expr} {to : TE} {name : Str} {apos cpos : Pos} {T id : String} {r : V → List V → Hp → VK → Prop} {op : D → DCall} (pa : PlainAttrs T) (slot : Slot T name id) (hty : typeOf (.builtin id) = pure (.type "method_descriptor")) (hm : MtR X id r) (hs : MtS X.K r op) (ho : SE X W o to w)
    (hbase : attributeBase o name X.env (eval o X.env) = eval o X.env := by rfl) (hline : (apos.endLine == cpos.line) = true := by rfl) :
    SE X W (.Call (.Attribute o name apos) [] [] cpos) (tBM0 X.K T r to) (wMt0 T op w) := by
  refine ⟨pe_bm0 pa slot hty hm ho.1 hbase hline, fun E F H σ a Q q qe R hw l lx => ?_⟩
  refine ho.2 E F H σ a _ _ qe R hw (fun v1 r1 F1 H1 a1 e1 R1 rp hw1 => ?_) lx
  obtain ⟨x, c0, ht, hop⟩ := onO_iff.mp hw1
  exact ⟨(rd_of R1 rp c0).tyN R1 ht, hs E F1 H1 σ a1 v1 [] x [] Q _ R1 (rd_of R1 rp c0) .nil hop fun v r F' H' e' R' rp k => l v r F' H' a1 (e1.trans e') R' rp k⟩
end
section
variable {K : PySem.W.Frag} {X : Cx}
theorem one_arg {P : V → D → Prop} {vs : List V} {d : D} (h : Paired P vs [d]) : ∃ v, vs = [v] ∧ P v d := by
  cases h with
  | cons h t => cases t; exact ⟨_, rfl, h⟩
/-- xs.count(k), ints -/
def dCount : D → DCall := fun x ds k => match ds with
  | [.int j] => match x with
    | .lst xs => onO (intsOf xs) fun ns => k (.dat (.int (ns.count j : Nat)))
    | _ => False
  | _ => False
theorem dCount_ok : MtS K (rCntI K) dCount := by
  intro E F H σ a v vs x ds Q k R h ha ho l
  unfold dCount at ho
  split at ho
  · obtain ⟨u, rfl, hu⟩ := one_arg ha
    obtain rfl := hu.int
    split at ho
    · obtain ⟨ns, e1, ho⟩ := onO_iff.mp ho
      obtain ⟨p, ws, rfl, hp, r⟩ := h.lst R.ext
      obtain rfl := ints_of e1 r
      exact ⟨p, ns, _, rfl, rfl, .of hp, l _ (.dat _) F H (Same.refl F) R (Rep.int _) ho⟩
    · exact ho.elim
  · exact ho.elim
/-- xs.index(y), all flat -/
def dIndex : D → DCall := fun x ds k => match ds with
  | [y] => match x with
    | .lst xs => flatD y = true ∧ xs.all flatD = true ∧ ∃ (j : Nat) (z : D), xs[j]? = some z ∧ scEq z y = true ∧ (∀ (m : Nat) (z' : D), m < j → xs[m]? = some z' → scEq z' y = false) ∧ k (.dat (.int (j : Nat)))
    | .tup xs => False
    | _ => False
  | _ => False
theorem dIndex_ok : MtS K (rIndex K) dIndex := by
  intro E F H σ a v vs x ds Q k R h ha ho l
  unfold dIndex at ho
  split at ho
  · rename_i y
    obtain ⟨u, rfl, hu⟩ := one_arg ha
    split at ho
    · rename_i xs
      obtain ⟨f1, f2, j, z, h1, h2, h3, hk⟩ := ho
      obtain ⟨p, ws, rfl, hp, r⟩ := h.lst R.ext
      obtain ⟨w, hw, rw'⟩ := r.get' h1
      have fl : ∀ (m : Nat) (z' : D), xs[m]? = some z' → flatD z' = true := fun m z' e => List.all_eq_true.mp f2 z' (List.mem_of_getElem? e)
      refine ⟨p, ws, u, j, w, rfl, rfl, .of hp, flat_rep hu f1, (any_rep hu f1 r f2).1, hw, ?_, fun m z' hm hz' => ?_, l _ (.dat _) F H (Same.refl F) R (Rep.int _) hk⟩
      · rw [scEq_rep (.inl rw' : RdD K F H _ _) hu (fl _ _ h1) f1]; exact h2
      · obtain ⟨d, hd, rd⟩ := r.get hz'
        rw [scEq_rep (.inl rd : RdD K F H _ _) hu (fl _ _ hd) f1]; exact h3 m d hm hd
    · exact ho.elim
    · exact ho.elim
  · exact ho.elim
/-- texts of a list -/
def strsOf : List D → Option (List Str)
  | [] => some []
  | .str i :: ds => (strsOf ds).map (i :: ·)
  | _ => none
theorem strs_of {F : Hp} : ∀ {ds : List D} {ns : List Str} {vs : List V}, strsOf ds = some ns → Reps K F vs ds → vs = ns.map V.str
  | [], ns, vs, h, r => by cases h; cases r; rfl
  | .str i :: ds, ns, vs, h, r => by
    obtain ⟨ms, h1, rfl⟩ := Option.map_eq_some_iff.mp h
    cases r with
    | cons r t => cases r; rw [List.map_cons, strs_of h1 t]
theorem strsOf_map (ns : List Str) : strsOf (ns.map D.str) = some ns := by
  induction ns with
  | nil => rfl
  | cons n ns ih => rw [List.map_cons, strsOf, ih]; rfl
def rJoin (K : PySem.W.Frag) : V → List V → Hp → VK → Prop := fun x xs H Q => ∃ a p, ∃ ys : List Str, x = .str a ∧ xs = [.ref p] ∧ (SqL K H p (ys.map V.str) ∨ SqT K H p (ys.map V.str)) ∧
    (ys.map (·.length)).sum + ys.length * a.length ≤ 16777216 ∧ Q (.str (Txt.join a ys)) H
theorem mt_joinA : MtR X "str.join" (rJoin X.K) := mt_join
def dJoin : D → DCall := fun x ds k => match x, ds with
  | .str z, [.lst xs] => onO (strsOf xs) fun ys => (ys.map (·.length)).sum + ys.length * z.length ≤ 16777216 ∧ k (.dat (.str (Txt.join z ys)))
  | _, _ => False
theorem dJoin_ok : MtS K (rJoin K) dJoin := by
  intro E F H σ a v vs x ds Q k R h ha ho l
  unfold dJoin at ho
  split at ho
  · obtain ⟨u, rfl, hu⟩ := one_arg ha
    obtain ⟨ns, e1, h1, ho⟩ := onO_iff.mp ho
    obtain rfl := h.str
    obtain ⟨p, ws, rfl, hp, r⟩ := hu.lst R.ext
    obtain rfl := strs_of e1 r
    exact ⟨_, p, ns, rfl, rfl, .inl (.of hp), h1, l _ (.dat _) F H (Same.refl F) R (Rep.str _) ho⟩
  · exact ho.elim
def rSplit : V → List V → Hp → VK → Prop := fun x xs H Q => ∃ a b, x = .str a ∧ xs = [.str b] ∧ (b.length == 0) = false ∧ a.length + 2 ≤ sizeLine ∧ rNewStrs (Txt.split a b) H Q
theorem mt_splitB : MtR X "str.split" rSplit := mt_split
def dSplit : D → DCall := fun x ds k => match x, ds with
  | .str a, [.str b] => ((b.length == 0) = false ∧ a.length + 2 ≤ sizeLine) ∧ k (.new (.lst ((Txt.split a b).map D.str)))
  | _, _ => False
theorem dSplit_ok : MtS K rSplit dSplit := by
  intro E F H σ a v vs x ds Q k R h ha ho l
  unfold dSplit at ho
  split at ho
  · obtain ⟨u, rfl, hu⟩ := one_arg ha
    obtain rfl := h.str
    obtain rfl := hu.str
    exact ⟨_, _, rfl, rfl, ho.1.1, ho.1.2, new_lst R (reps_strs _) l ho.2⟩
  · exact ho.elim
def rWords : V → List V → Hp → VK → Prop := fun x xs H Q => ∃ a, x = .str a ∧ xs = [] ∧ a.length + 2 ≤ sizeLine ∧ rNewStrs (Txt.words a) H Q
theorem mt_wordsB : MtR X "str.split" rWords := mt_words
def dWords : D → DCall := fun x ds k => match x, ds with
  | .str a, [] => a.length + 2 ≤ sizeLine ∧ k (.new (.lst ((Txt.words a).map D.str)))
  | _, _ => False
theorem dWords_ok : MtS K rWords dWords := by
  intro E F H σ a v vs x ds Q k R h ha ho l
  unfold dWords at ho
  split at ho
  · cases ha
    obtain rfl := h.str
    exact ⟨_, rfl, rfl, ho.1, new_lst R (reps_strs _) l ho.2⟩
  · exact ho.elim
/-- a text's method with a text, to an int -/
def rSSI (f : Str → Str → Int) : V → List V → Hp → VK → Prop := fun x xs H Q => ∃ a b, x = .str a ∧ xs = [.str b] ∧ Q (.int (f a b)) H
def dSSI (f : Str → Str → Int) : D → DCall := fun x ds k => match x, ds with
  | .str a, [.str b] => k (.dat (.int (f a b)))
  | _, _ => False
theorem dSSI_ok {f : Str → Str → Int} : MtS K (rSSI f) (dSSI f) := by
  intro E F H σ a v vs x ds Q k R h ha ho l
  unfold dSSI at ho
  split at ho
  · obtain ⟨u, rfl, hu⟩ := one_arg ha
    obtain rfl := h.str
    obtain rfl := hu.str
    exact ⟨_, _, rfl, rfl, l _ (.dat _) F H (Same.refl F) R (Rep.int _) ho⟩
  · exact ho.elim
theorem mt_countS : MtR X "str.count" (rSSI fun a b => (Txt.count a b : Int)) := mt_count
theorem mt_rfindS : MtR X "str.rfind" (rSSI fun a b => Txt.rfind a b) := mt_rfind
/-! ### the greatest, the least of a list of ints; sorted -/
def dMaxL : DCall := fun ds k => match ds with
  | [.lst xs] => onO (intsOf xs) fun ns => 0 < ns.length ∧ ∀ m, m ∈ ns → (∀ y, y ∈ ns → y ≤ m) → k (.dat (.int m))
  | _ => False
theorem dMaxL_ok : CallS K (rMax K) dMaxL := by
  intro E F H σ a vs ds Q k R h ho l
  unfold dMaxL at ho
  split at ho
  · obtain ⟨u, rfl, hu⟩ := one_arg h
    obtain ⟨ns, e1, h1, ho⟩ := onO_iff.mp ho
    obtain ⟨p, ws, rfl, hp, r⟩ := hu.lst R.ext
    obtain rfl := ints_of e1 r
    exact ⟨p, ns, rfl, .of hp, h1, fun m m1 m2 => l _ (.dat _) F H (Same.refl F) R (Rep.int _) (ho m m1 m2)⟩
  · exact ho.elim
def dMinL : DCall := fun ds k => match ds with
  | [.lst xs] => onO (intsOf xs) fun ns => 0 < ns.length ∧ ∀ m, m ∈ ns → (∀ y, y ∈ ns → m ≤ y) → k (.dat (.int m))
  | _ => False
theorem dMinL_ok : CallS K (rMin K) dMinL := by
  intro E F H σ a vs ds Q k R h ho l
  unfold dMinL at ho
  split at ho
  · obtain ⟨u, rfl, hu⟩ := one_arg h
    obtain ⟨ns, e1, h1, ho⟩ := onO_iff.mp ho
    obtain ⟨p, ws, rfl, hp, r⟩ := hu.lst R.ext
    obtain rfl := ints_of e1 r
    exact ⟨p, ns, rfl, .of hp, h1, fun m m1 m2 => l _ (.dat _) F H (Same.refl F) R (Rep.int _) (ho m m1 m2)⟩
  · exact ho.elim
end
/-! ### reversed, of a list, of a range -/
section
variable {X : Cx} {W : L2.St → XK} {tg l e a b c : Expr} {pos : Pos} {ta tb tc tl te : TE} {la : TA} {w w1 w2 w3 : WE} {ws : WA}
def wiRevL (ws : WA) : WI := fun a q qe => ws a (fun rs a1 => match rs with
  | [r] => fz r a1 fun d a2 => onO (listOf d) fun xs => q xs.reverse a2
  | _ => False) qe
theorem si_revL {p : Pos} (hg : Gl X "reversed") (hm : X.mg "reversed" = none) (ha : SA X W [e] la ws) (hs : starEach [e] X.env = (false, eval e X.env) :: starEach [] X.env := by rfl) :
    SI X W tg (.Call (.Name "reversed" p) [e] [] pos) (iRev X.K la) (wiRevL ws) := by
  refine ⟨pi_reversed hg hm ha.1 hs, fun E F H σ a R q qe Rl hw lk lx => ha.2 E F H σ a _ _ _ Rl hw (fun vs rs F' H' a' e R' rps hn hq => ?_) lx⟩
  match rs, hq with
  | [r], hq =>
    cases rps with
    | cons rp t =>
      cases t
      obtain ⟨F2, a2, d, s, R2, rp2, hk⟩ := fz_ok R' rp hq
      obtain ⟨xs, hd, hk⟩ := onO_iff.mp hk
      have hd : d = .lst xs ∨ d = .rol xs := by
        cases d <;> first
          | (cases hd; exact .inl rfl)
          | (cases hd; exact .inr rfl)
          | cases hd
      rcases hd with rfl | rfl
      · cases rp2 with
        | lst hf r => exact ⟨_, _, rfl, R2.ext.seq (.of hf), lk _ xs.reverse F2 H' a2 (e.trans s) R2 (itv_ok (.of hf) r) hk⟩
      · cases rp2 with
        | rol hf r => exact ⟨_, _, rfl, R2.ext.seq hf, lk _ xs.reverse F2 H' a2 (e.trans s) R2 (itv_ok hf r) hk⟩
def wiRevR1 (w : WE) : WI := fun a q qe => w a (fun r a1 => onI (con a1 r) fun j => (-(2 ^ 62) ≤ j ∧ j < 2 ^ 62) ∧ q (rangeC ((j.toNat : Int) - 1) (-1) j.toNat) a1) qe
theorem si_revR1 {p p2 pos2 : Pos} (hg : Gl X "reversed") (hm : X.mg "reversed" = none) (hg2 : Gl X "range") (hm2 : X.mg "range" = none) (ha : SE X W e ta w) (na : starEach [e] X.env = (false, eval e X.env) :: starEach [] X.env := by rfl)
    (hs : starEach [.Call (.Name "range" p2) [e] [] pos2] X.env = (false, eval (.Call (.Name "range" p2) [e] [] pos2) X.env) :: starEach [] X.env := by rfl) :
    SI X W tg (.Call (.Name "reversed" p) [.Call (.Name "range" p2) [e] [] pos2] [] pos) (iRevR (tRg1 ta)) (wiRevR1 w) := by
  refine ⟨pi_revR hg hm (prg_1 hg2 hm2 ha.1 na) hs, fun E F H σ a R q qe Rl hw lk lx => ha.2 E F H σ a _ _ _ Rl hw (fun v r F' H' a' e R' rp hq => ?_) lx⟩
  obtain ⟨j, c, ⟨h1, h2⟩, hk⟩ := onI_iff.mp hq
  obtain rfl := (rd_of R' rp c).int
  refine ⟨j, rfl, by decide, by decide, h1, h2, ?_⟩
  have e1 : (0 : Int) + (((j - 0).toNat : Nat) : Int) - 1 = (j.toNat : Int) - 1 := by rw [Int.sub_zero]; omega
  rw [e1, Int.sub_zero]
  exact lk _ _ F' H' a' e R' itc_ok hk
/-- a op b op c, of ints or what else the two can do -/
def wChain (op op' : DOp) (w1 w2 w3 : WE) : WE := fun a q qe => w1 a (fun r1 a1 => w2 a1 (fun r2 a2 => onO (con a2 (hold r1)) fun x => onO (con a2 r2) fun y => op x y fun r => onB (con a2 r) fun k =>
  br k (w3 a2 (fun r3 a3 => onO (con a3 (hold r2)) fun y => onO (con a3 r3) fun z => op' y z fun r => q r a3) qe) (q (.dat (.bl false)) a2)) qe) qe
theorem se_chain {o o' : CmpOp} {r r' : R2} {op op' : DOp} (ho : OpR X (compareOp o) r) (hs : OpS X.K r op) (ho' : OpR X (compareOp o') r') (hs' : OpS X.K r' op') (h1 : SE X W a ta w1) (h2 : SE X W b tb w2) (h3 : SE X W c tc w3)
    (hm : lastMarks [o, o'] [b, c] = false := by with_unfolding_all rfl) : SE X W (.Compare a [o, o'] [b, c] pos) (tChain r r' ta tb tc) (wChain op op' w1 w2 w3) := by
  obtain ⟨pa, sa⟩ := id h1
  obtain ⟨pb, sb⟩ := id h2
  obtain ⟨pc, sc⟩ := id h3
  refine ⟨pe_chain ho ho' pa pb pc hm, fun E F H σ a Q q qe R hw l lx => ?_⟩
  refine sa E F H σ a _ _ qe R hw (fun v1 r1 F1 H1 a1 s1 R1 rp1 hw1 => ?_) lx
  obtain ⟨F1', s1', R1', rp1'⟩ := hold_ok R1 rp1
  refine sb E F1' H1 σ a1 _ _ qe R1' hw1 (fun v2 r2 F2 H2 a2 s2 R2 rp2 hw2 => ?_) (lx.to (s1.trans s1'))
  obtain ⟨F2', s2', R2', rp2'⟩ := hold_ok R2 rp2
  obtain ⟨x, c1, hw2⟩ := onO_iff.mp hw2
  obtain ⟨y, c2, hop⟩ := onO_iff.mp hw2
  have c2' : con a2 (hold r2) = some y := by cases r2 <;> exact c2
  refine hs E F2' H2 σ a2 v1 v2 x y _ _ R2' (rd_of R2' (held_on (s2.trans s2') rp1') c1) (rd_of R2' rp2' c2') hop fun v r F3 H3 s3 R3 rp3 hb => ?_
  obtain ⟨k, cb, hb⟩ := onB_iff.mp hb
  have ev : v = .bl k := (rd_of R3 rp3 cb).bl
  refine ⟨k, ev, ?_⟩
  cases k with
  | false =>
    rw [if_neg Bool.false_ne_true]
    exact l (.bl false) (.dat (.bl false)) F3 H3 a2 ((((s1.trans s1').trans s2).trans s2').trans s3) R3 (.bl false) (br_ff hb rfl)
  | true =>
    rw [if_pos rfl]
    refine sc E F3 H3 σ a2 _ _ qe R3 (br_tt hb rfl) (fun v4 r4 F4 H4 a4 s4 R4 rp4 hw4 => ?_) (lx.to ((((s1.trans s1').trans s2).trans s2').trans s3))
    obtain ⟨y', c3, hw4⟩ := onO_iff.mp hw4
    obtain ⟨z, c4, hop'⟩ := onO_iff.mp hw4
    refine hs' E F4 H4 σ a4 v2 v4 y' z _ _ R4 (rd_of R4 (held_on (s3.trans s4) rp2') c3) (rd_of R4 rp4 c4) hop' fun v r F5 H5 s5 R5 rp5 k5 => ?_
    exact l v r F5 H5 a4 ((((((s1.trans s1').trans s2).trans s2').trans s3).trans s4).trans s5) R5 rp5 k5
end
end DS

namespace DS
open PySem PySem.Spec PyProof.Rows L2

/-! ### a memory of one's own: lists and dicts that are changed where they stand in others -/
abbrev Gm := List (Addr × D)
def gAt (g : Gm) (p : Addr) : Option D := valD g p
theorem gAt_cons {g : Gm} {p q : Addr} {d : D} : gAt ((p, d) :: g) q = if p = q then some d else gAt g q := valD_cons
theorem gAt_same {g : Gm} {p : Addr} {d : D} : gAt ((p, d) :: g) p = some d := by rw [gAt_cons, if_pos rfl]
theorem gAt_ne {g : Gm} {p q : Addr} {d : D} (h : p ≠ q) : gAt ((p, d) :: g) q = gAt g q := by rw [gAt_cons, if_neg h]
section
variable {K : PySem.W.Frag} {E : En} {F F' H H' : Hp} {σ σ' : L2.St} {a a' : PSt} {g : Gm}
theorem Top.ntup {o : HO} {d : D} (h : Top K F o d) : ∀ xs, o ≠ .tup xs := by
  intro xs z
  subst z
  cases h
def MemOk (K : PySem.W.Frag) (E : En) (F H : Hp) (σ : L2.St) (a : PSt) (g : Gm) : Prop := ∀ q d, gAt g q = some d → F q = none ∧ E.H q = none ∧ ¬ Owned σ a q ∧ ∃ o, H q = some o ∧ Top K F o d
theorem mem_nil : MemOk K E F H σ a [] := fun q d h => by cases h
def En.mem (E : En) (H : Hp) (g : Gm) : En := { E with H := fun p => if (gAt g p).isSome = true then H p else E.H p }
theorem mem_yes {p : Addr} {d : D} (h : gAt g p = some d) : (E.mem H g).H p = H p := if_pos (by rw [h]; rfl)
theorem mem_no {p : Addr} (h : gAt g p = none) : (E.mem H g).H p = E.H p := if_neg (by rw [h]; exact fun z => by cases z)
theorem Rel.toMem (R : Rel K E F H σ a) (M : MemOk K E F H σ a g) : Rel K (E.mem H g) F H σ a := by
  refine ⟨R.ext, R.f0, fun p u e => ?_, fun p u e l => ?_, fun p e => ?_, fun p l => ?_, R.len, fun i av e => ?_, R.dis⟩
  · rcases R.new p u e with z | z | z
    · exact .inl z
    · cases h : gAt g p with
      | none => exact .inr (.inl (by rw [mem_no h]; exact z))
      | some d => have := (M p d h).1; rw [e] at this; cases this
    · exact .inr (.inr z)
  · cases h : gAt g p with
    | none => rw [mem_no h] at e; exact R.keep p u e l
    | some d => rw [mem_yes h] at e; exact e
  · cases h : gAt g p with
    | none => rw [mem_no h]; exact R.dom p e
    | some d => rw [mem_yes h]; exact e
  · cases h : gAt g p with
    | none => rw [mem_no h]; exact R.lt p l
    | some d => exact absurd (M p d h).2.1 (R.lt p l)
  · obtain ⟨v, e1, q⟩ := R.sl i av e
    refine ⟨v, e1, ?_⟩
    obtain ⟨ow, c⟩ := av
    cases ow with
    | no => exact q
    | own =>
      obtain ⟨p, rfl, h1, h2, h3⟩ := q
      refine ⟨p, rfl, h1, ?_, h3⟩
      cases h : gAt g p with
      | none => rw [mem_no h]; exact h2
      | some d => exact absurd ⟨i, _, e, by simp, e1⟩ (M p d h).2.2.1
    | lent => exact q
theorem Rel.ofMem (R : Rel K E F H σ a) (M : MemOk K E F H σ a g) (s : Same F F') (R' : Rel K (E.mem H g) F' H' σ' a') : Rel K E F' H' σ' a' ∧ MemOk K E F' H' σ' a' g := by
  have dn : ∀ p, (E.mem H g).H p = none → E.H p = none := fun p h => by
    cases e : gAt g p with
    | none => rw [mem_no e] at h; exact h
    | some d => exact (M p d e).2.1
  refine ⟨⟨R'.ext, R'.f0, fun p u e => ?_, fun p u e l => ?_, fun p e => dn p (R'.dom p e), R.lt, R'.len, fun i av e => ?_, R'.dis⟩, fun q d h => ?_⟩
  · rcases R'.new p u e with z | z | z
    · exact .inl z
    · exact .inr (.inl (dn p z))
    · exact .inr (.inr z)
  · refine R'.keep p u ?_ l
    cases h : gAt g p with
    | none => rw [mem_no h]; exact e
    | some d => rw [(M p d h).2.1] at e; cases e
  · obtain ⟨v, e1, q⟩ := R'.sl i av e
    refine ⟨v, e1, ?_⟩
    obtain ⟨ow, c⟩ := av
    cases ow with
    | no => exact q
    | own =>
      obtain ⟨p, rfl, h1, h2, h3⟩ := q
      exact ⟨p, rfl, h1, dn p h2, h3⟩
    | lent => exact q
  · obtain ⟨f1, f2, f3, o, ho, t⟩ := M q d h
    have hL : ¬ E.L q := fun z => R.lt q z f2
    have hM : (E.mem H g).H q = some o := by rw [mem_yes h]; exact ho
    have hH : H' q = some o := R'.keep q o hM hL
    refine ⟨?_, f2, fun ⟨i, av, h1, h2, h3⟩ => ?_, o, hH, t.mono s⟩
    · cases e : F' q with
      | none => rfl
      | some u =>
        rcases R'.new q u e with z | z | ⟨xs, rfl⟩
        · have z' : E.F q = some u := z
          rw [R.f0 q u z'] at f1
          cases f1
        · rw [hM] at z; cases z
        · have := R'.ext q _ e
          rw [hH] at this
          exact absurd (Option.some.inj this) (t.ntup xs)
    · obtain ⟨v, e1, oa⟩ := R'.sl i av h1
      rw [h3] at e1
      cases e1
      obtain ⟨ow, c⟩ := av
      cases ow with
      | no => exact h2 rfl
      | own =>
        obtain ⟨p, e2, _, h5, _⟩ := oa
        cases e2
        rw [hM] at h5
        cases h5
      | lent =>
        obtain ⟨p, e2, _, h5, _⟩ := oa
        cases e2
        exact hL h5
structure RelG (K : PySem.W.Frag) (E : En) (F H : Hp) (σ : L2.St) (a : PSt) (g : Gm) : Prop where
  r : Rel K E F H σ a
  m : MemOk K E F H σ a g
theorem RelG.of (R : RelG K E F H σ a g) (s : Same F F') (R' : Rel K (E.mem H g) F' H' σ' a') : RelG K E F' H' σ' a' g := ⟨(R.r.ofMem R.m s R').1, (R.r.ofMem R.m s R').2⟩
theorem RelG.to (R : RelG K E F H σ a g) : Rel K (E.mem H g) F H σ a := R.r.toMem R.m
/-- a new object is laid -/
theorem RelG.lay (R : RelG K E F H σ a g) {p : Addr} (o : HO) (h : H p = none) : RelG K E F (upd H p o) σ a g :=
  ⟨R.r.lay o h, fun q d e => by
    obtain ⟨f1, f2, f3, u, hu, t⟩ := R.m q d e
    exact ⟨f1, f2, f3, u, by rw [upd_ne (ne_of_none hu h)]; exact hu, t⟩⟩
/-- .. and is remembered -/
theorem RelG.layM (R : RelG K E F H σ a g) {p : Addr} {o : HO} {d : D} (h : H p = none) (t : Top K F o d) : RelG K E F (upd H p o) σ a ((p, d) :: g) :=
  ⟨R.r.lay o h, fun q c e => by
    rw [gAt_cons] at e
    by_cases z : p = q
    · rw [if_pos z] at e
      cases e
      subst z
      obtain ⟨f1, f2, f3⟩ := R.r.fresh h
      exact ⟨f1, f2, f3, o, upd_same, t⟩
    · rw [if_neg z] at e
      exact (R.lay o h).m q c e⟩
/-- a remembered object is written -/
theorem RelG.writeM (R : RelG K E F H σ a g) {p : Addr} {o : HO} {c d : D} (h : gAt g p = some c) (t : Top K F o d) : RelG K E F (upd H p o) σ a ((p, d) :: g) := by
  obtain ⟨f1, f2, f3, u, hu, _⟩ := R.m p c h
  refine ⟨⟨fun b x e => ?_, R.r.f0, R.r.new, fun b x e l => ?_, fun b e => ?_, R.r.lt, R.r.len, fun i av e => ?_, R.r.dis⟩, fun q x e => ?_⟩
  · rw [upd_ne (ne_of_none e f1)]; exact R.r.ext _ _ e
  · rw [upd_ne (ne_of_none e f2)]; exact R.r.keep _ _ e l
  · by_cases hb : b = p
    · rw [hb]; exact f2
    · rw [upd_ne hb] at e; exact R.r.dom b e
  · obtain ⟨v, e1, q⟩ := R.r.sl i av e
    refine ⟨v, e1, ?_⟩
    have hne : ∀ b, av.o ≠ .no → v = .ref b → b ≠ p := fun b ho hb z => f3 ⟨i, av, e, ho, by rw [e1, hb, z]⟩
    obtain ⟨ow, c'⟩ := av
    cases ow with
    | no => exact q
    | own => obtain ⟨b, rfl, h1, h2, y, h3, h4⟩ := q; exact ⟨b, rfl, h1, h2, y, by rw [upd_ne (hne b (by simp) rfl)]; exact h3, h4⟩
    | lent => obtain ⟨b, rfl, h1, h2, h5, y, h3, h4⟩ := q; exact ⟨b, rfl, h1, h2, h5, y, by rw [upd_ne (hne b (by simp) rfl)]; exact h3, h4⟩
  · rw [gAt_cons] at e
    by_cases z : p = q
    · rw [if_pos z] at e
      cases e
      subst z
      exact ⟨f1, f2, f3, o, upd_same, t⟩
    · rw [if_neg z] at e
      obtain ⟨k1, k2, k3, y, hy, ty⟩ := R.m q x e
      exact ⟨k1, k2, k3, y, by rw [upd_ne (Ne.symm z)]; exact hy, ty⟩
theorem owned_set {i : Nat} {v : V} {d : D} {q : Addr} (h : Owned (σ.set i (some v)) (a.set i (some ⟨.no, d⟩)) q) : Owned σ a q := by
  obtain ⟨j, av, h1, h2, h3⟩ := h
  by_cases hj : j = i
  · subst hj
    have hi : j < a.length := by
      have := (List.getElem?_eq_some_iff.mp h1).1
      rwa [List.length_set] at this
    rw [List.getElem?_set_self hi] at h1
    cases h1
    exact absurd rfl h2
  · rw [List.getElem?_set_ne (Ne.symm hj)] at h1 h3
    exact ⟨j, av, h1, h2, h3⟩
theorem RelG.setDat (R : RelG K E F H σ a g) {i : Nat} {v : V} {d : D} (r : Rep K F v d) : RelG K E F H (σ.set i (some v)) (a.set i (some ⟨.no, d⟩)) g :=
  ⟨R.r.setDat r, fun q c e => by
    obtain ⟨f1, f2, f3, u, hu, t⟩ := R.m q c e
    exact ⟨f1, f2, fun z => f3 (owned_set z), u, hu, t⟩⟩
/-- a remembered object joins the frozen part -/
theorem RelG.freezeM (R : RelG K E F H σ a g) {p : Addr} {d : D} (h : gAt g p = some d) (g' : Gm) (hg : ∀ q c, gAt g' q = some c → q ≠ p ∧ gAt g q = some c) : ∃ F2, Same F F2 ∧ RelG K E F2 H σ a g' ∧ Rep K F2 (.ref p) d := by
  obtain ⟨f1, f2, f3, o, ho, t⟩ := R.m p d h
  obtain ⟨s, R2⟩ := R.r.freeze ho f1 f2 f3
  refine ⟨_, s, ⟨R2, fun q c e => ?_⟩, t.rep s upd_same⟩
  obtain ⟨hne, e⟩ := hg q c e
  obtain ⟨k1, k2, k3, u, hu, tu⟩ := R.m q c e
  exact ⟨by rw [upd_ne hne]; exact k1, k2, k3, u, hu, tu.mono s⟩
end

/-! ### statements over it -/
structure EndsG where
  nx : Gm → PSt → Prop
  rt : AV → PSt → Prop
  bk : Gm → PSt → Prop
  ct : Gm → PSt → Prop
  ex : Exc → PSt → Prop
def EndsG.at (D : EndsG) (g : Gm) : EndsA where
  nx := D.nx g
  rt := D.rt
  bk := D.bk g
  ct := D.ct g
  ex := D.ex
abbrev WM := Gm → EndsG → PSt → Prop
structure LkG (K : PySem.W.Frag) (E : En) (F : Hp) (D : Ends) (DA : EndsG) (W : L2.St → XK) : Prop where
  nx : ∀ σ F' H a g, Same F F' → RelG K E F' H σ a g → DA.nx g a → D.nx σ H
  bk : ∀ σ F' H a g, Same F F' → RelG K E F' H σ a g → DA.bk g a → D.bk σ H
  ct : ∀ σ F' H a g, Same F F' → RelG K E F' H σ a g → DA.ct g a → D.ct σ H
  rt : ∀ σ F' H a v r, Same F F' → Rel K E F' H σ a → RetR K E F' H v r → DA.rt r a → D.rt v H
  ex : ∀ σ, Lx K E F σ DA.ex (W σ)
theorem LkG.to {K : PySem.W.Frag} {E : En} {F F' : Hp} {D : Ends} {DA : EndsG} {W : L2.St → XK} (l : LkG K E F D DA W) (e : Same F F') : LkG K E F' D DA W :=
  ⟨fun σ F2 H a g e2 => l.nx σ F2 H a g (e.trans e2), fun σ F2 H a g e2 => l.bk σ F2 H a g (e.trans e2), fun σ F2 H a g e2 => l.ct σ F2 H a g (e.trans e2), fun σ F2 H a v r e2 => l.rt σ F2 H a v r (e.trans e2), fun σ => (l.ex σ).to e⟩
def SM (X : Cx) (W : L2.St → XK) (st : Stmt) (t : TS) (w : WM) : Prop := PS X st t ∧ ∀ E F H σ a g D DA, RelG X.K E F H σ a g → w g DA a → LkG X.K E F D DA W → t D σ H
def SMs (X : Cx) (W : L2.St → XK) (st : List Stmt) (t : TS) (w : WM) : Prop := PSs X st t ∧ ∀ E F H σ a g D DA, RelG X.K E F H σ a g → w g DA a → LkG X.K E F D DA W → t D σ H
section
variable {K : PySem.W.Frag} {E : En} {F H : Hp} {σ : L2.St} {a : PSt} {g : Gm} {D : Ends} {DA : EndsG} {W : L2.St → XK}
theorem lx_mem {qe : Exc → PSt → Prop} {Wx : XK} {τ : L2.St} (R : RelG K E F H σ a g) (l : Lx K E F τ qe Wx) : Lx K (E.mem H g) F τ qe Wx :=
  fun x a' cls dx F' H' e R' xr q => l x a' cls dx F' H' e (R.of e R').r xr q
theorem lk_mem (R : RelG K E F H σ a g) (l : LkG K E F D DA W) : Lk K (E.mem H g) F D (DA.at g) W where
  nx := fun σ' F' H' a' e R' q => l.nx σ' F' H' a' g e (R.of e R') q
  bk := fun σ' F' H' a' e R' q => l.bk σ' F' H' a' g e (R.of e R') q
  ct := fun σ' F' H' a' e R' q => l.ct σ' F' H' a' g e (R.of e R') q
  rt := fun σ' F' H' a' v r e R' rr q => l.rt σ' F' H' a' v r e (R.of e R').r (by
    have dn : ∀ p, (E.mem H g).H p = none → E.H p = none := fun p h => by
      cases e : gAt g p with
      | none => rw [mem_no e] at h; exact h
      | some d => exact (R.m p d e).2.1
    obtain ⟨o, c⟩ := r
    cases o with
    | no => exact rr
    | own => obtain ⟨p, e1, h1, h2, h3⟩ := rr; exact ⟨p, e1, h1, dn p h2, h3⟩
    | lent => obtain ⟨p, e1, h1, h2, h3⟩ := rr; exact ⟨p, e1, h1, dn p h2, h3⟩) q
  ex := fun τ => lx_mem R (l.ex τ)
end
section
variable {X : Cx} {W : L2.St → XK} {st : Stmt} {rest : List Stmt} {t u : TS} {w1 w2 : WM} {e a b c : Expr} {pos : Pos} {ta tb : TE} {ua : TT} {w wk wx : WE} {wt : WT}
def wmOf (w : WS) : WM := fun g D a => w (D.at g) a
theorem sm_of {w : WS} (h : SS X W st t w) : SM X W st t (wmOf w) := ⟨h.1, fun E F H σ a g D DA R hw l => h.2 (E.mem H g) F H σ a _ _ R.to hw (lk_mem R l)⟩
def wmNext : WM := fun g D a => D.nx g a
def wmSeq (w1 w2 : WM) : WM := fun g D a => w1 g { D with nx := fun g' a' => w2 g' D a' } a
theorem sms_nil : SMs X W [] tNext wmNext := ⟨pss_nil, fun E F H σ a g D DA R h l => l.nx σ F H a g (Same.refl F) R h⟩
theorem sms_cons (h1 : SM X W st t w1) (h2 : SMs X W rest u w2) : SMs X W (st :: rest) (tSeq t u) (wmSeq w1 w2) := by
  refine ⟨pss_cons h1.1 h2.1, fun E F H σ a g D DA R h l => h1.2 E F H σ a g _ _ R h ⟨fun σ' F' H' a' g' e R' q => ?_, l.bk, l.ct, l.rt, l.ex⟩⟩
  exact h2.2 E F' H' σ' a' g' D DA R' q (l.to e)
theorem sms_one (h1 : SM X W st t w1) : SMs X W [st] t w1 := ⟨pss_one h1.1, h1.2⟩
def wmIf (wt : WT) (w1 w2 : WM) : WM := fun g D a => wt a (fun b a1 => br b (w1 g D a1) (w2 g D a1)) D.ex
theorem sm_if {s1 s2 : List Stmt} (h : ST X W c ua wt) (h1 : SMs X W s1 t w1) (h2 : SMs X W s2 u w2) : SM X W (.If c s1 s2 pos) (tIfS ua t u) (wmIf wt w1 w2) := by
  refine ⟨ps_if h.1 h1.1 h2.1, fun E F H σ a g D DA R hw l => h.2 (E.mem H g) F H σ a _ _ _ R.to hw (fun k F' H' a' e R' q => ?_) (lx_mem R (l.ex σ))⟩
  have R2 := R.of e R'
  cases k with
  | true => exact h1.2 E F' H' σ a' g D DA R2 (br_tt q rfl) (l.to e)
  | false => exact h2.2 E F' H' σ a' g D DA R2 (br_ff q rfl) (l.to e)
@[irreducible] def forM (items : List D) (wg : WG) (wb : WM) (D : EndsG) (g : Gm) (a : PSt) : Prop := ∃ Inv : Nat → Gm → PSt → Prop, Inv 0 g a ∧
  (∀ i g2 a2 d, items[i]? = some d → Inv i g2 a2 → wg d a2 fun a3 => wb g2 { D with nx := Inv (i + 1), ct := Inv (i + 1), bk := D.nx } a3) ∧ ∀ g2 a2, Inv items.length g2 a2 → D.nx g2 a2
theorem form_i {items : List D} {wg : WG} {wb : WM} {D : EndsG} {g : Gm} {a : PSt} (Inv : Nat → Gm → PSt → Prop) (h0 : Inv 0 g a)
    (hs : ∀ i g2 a2 d, items[i]? = some d → Inv i g2 a2 → wg d a2 fun a3 => wb g2 { D with nx := Inv (i + 1), ct := Inv (i + 1), bk := D.nx } a3) (he : ∀ g2 a2, Inv items.length g2 a2 → D.nx g2 a2) : forM items wg wb D g a := by unfold forM; exact ⟨Inv, h0, hs, he⟩
theorem form_d {items : List D} {wg : WG} {wb : WM} {D : EndsG} {g : Gm} {a : PSt} (h : forM items wg wb D g a) : ∃ Inv : Nat → Gm → PSt → Prop, Inv 0 g a ∧
  (∀ i g2 a2 d, items[i]? = some d → Inv i g2 a2 → wg d a2 fun a3 => wb g2 { D with nx := Inv (i + 1), ct := Inv (i + 1), bk := D.nx } a3) ∧ ∀ g2 a2, Inv items.length g2 a2 → D.nx g2 a2 := by unfold forM at h; exact h
/-- the state named by the one ahead of the loop -/
theorem form_v {items : List D} {wg : WG} {wb : WM} {D : EndsG} {g : Gm} {a : PSt} (J : Nat → PSt → Gm → PSt → Prop) (h0 : J 0 a g a)
    (hs : ∀ i g2 a2 d, items[i]? = some d → J i a g2 a2 → wg d a2 fun a3 => wb g2 { D with nx := J (i + 1) a, ct := J (i + 1) a, bk := D.nx } a3) (he : ∀ g2 a2, J items.length a g2 a2 → D.nx g2 a2) : forM items wg wb D g a := form_i (fun i => J i a) h0 hs he
theorem form_rv {n : Nat} {lo : Int} {wg : WG} {wb : WM} {D : EndsG} {g : Gm} {a : PSt} (J : Nat → PSt → Gm → PSt → Prop) (h0 : J 0 a g a)
    (hs : ∀ i g2 a2, i < n → J i a g2 a2 → wg (.int (lo + i)) a2 fun a3 => wb g2 { D with nx := J (i + 1) a, ct := J (i + 1) a, bk := D.nx } a3) (he : ∀ g2 a2, J n a g2 a2 → D.nx g2 a2) : forM (rangeD lo n) wg wb D g a := by
  refine form_v J h0 (fun i g2 a2 d h hi => ?_) (fun g2 a2 h => he g2 a2 (by rw [rangeD_len] at h; exact h))
  obtain ⟨h1, rfl⟩ := rangeD_get.mp h
  exact hs i g2 a2 h1 hi
def wmFor (wi : WI) (wg : WG) (wb : WM) : WM := fun g D a => wi a (fun items a1 => forM items wg wb D g a1) D.ex
theorem sm_for {tg iter : Expr} {ti : TI} {wi : WI} {gg : TG} {wg : WG} {sl : List Nat} {tb' : TS} {wb : WM} {body : List Stmt} (hp : PassesOwn (model X.prog X.w) X.A X.env X.xe) (hc : X.calm = true) (hi : SI X W tg iter ti wi) (hg : SG X tg gg wg sl) (hb : SMs X W body tb' wb) (hs : ∀ x, foldedSetIterable iter X.env x = pure x := by intro _; rfl) :
    SM X W (.For tg iter body [] pos) (tFor ti gg tb') (wmFor wi wg wb) := by
  refine ⟨ps_for hp hc hi.1 hg.1 hb.1 hs, fun E F H σ a g D DA Rl hw l => hi.2 (E.mem H g) F H σ a _ _ _ Rl.to hw (fun J items F1 H1 a1 e1 R1 it hq => ?_) (lx_mem Rl (l.ex σ))⟩
  have R1 := Rl.of e1 R1
  obtain ⟨Inv, h0, hst, hend⟩ := form_d hq
  refine ⟨fun i m σ' H' => m = items.length - i ∧ i ≤ items.length ∧ ∃ F2 a2 g2, Same F1 F2 ∧ RelG X.K E F2 H' σ' a2 g2 ∧ Inv i g2 a2, ⟨_, rfl, Nat.zero_le _, F1, a1, g, Same.refl F1, R1, h0⟩, ?_⟩
  rintro i m σ' H' ⟨rfl, hi', F2, a2, g2, s2, R2, hinv⟩
  by_cases hlt : i < items.length
  · refine .inr ⟨it.go i E σ' a2 F2 H' s2 R2.r hlt, fun σ3 H3 => ∃ F3 a3 g3, Same F1 F3 ∧ RelG X.K E F3 H3 σ3 a3 g3 ∧ Inv (i + 1) g3 a3, fun σ3 H3 ⟨F3, a3, g3, s3, R3, h3⟩ => ⟨items.length - (i + 1), by omega, rfl, hlt, F3, a3, g3, s3, R3, h3⟩, fun x H3 y => ?_⟩
    obtain ⟨F3, d, s3, R3, hd, rp⟩ := it.yld i (E.mem H' g2) σ' a2 F2 H' x H3 s2 R2.to hlt y
    refine hg.2 (E.mem H' g2) F3 H3 σ' a2 x d _ _ R3 rp (hst i g2 a2 d hd hinv) fun σ4 a4 _ R4 hq4 => hb.2 E F3 H3 σ4 a4 g2 _ _ (R2.of s3 R4) hq4 ⟨fun σ5 F5 H5 a5 g5 e5 R5 q5 => ?_, fun σ5 F5 H5 a5 g5 e5 R5 q5 => ?_, fun σ5 F5 H5 a5 g5 e5 R5 q5 => ?_, fun σ5 F5 H5 a5 v r e5 => ?_, fun σ5 => ?_⟩
    · exact ⟨F5, a5, g5, (s2.trans s3).trans e5, R5, q5⟩
    · exact l.nx σ5 F5 H5 a5 g5 (((e1.trans s2).trans s3).trans e5) R5 q5
    · exact ⟨F5, a5, g5, (s2.trans s3).trans e5, R5, q5⟩
    · exact l.rt σ5 F5 H5 a5 v r (((e1.trans s2).trans s3).trans e5)
    · exact (l.ex σ5).to ((e1.trans s2).trans s3)
  · have e : i = items.length := by omega
    subst e
    exact .inl ⟨it.stop E σ' a2 F2 H' s2 R2.r, l.nx σ' F2 H' a2 g2 (e1.trans s2) R2 (hend g2 a2 hinv)⟩
/-- x = {}, remembered -/
def wmNewT (i : Nat) : WM := fun g D a => ∀ p, gAt g p = none → D.nx ((p, .dT []) :: g) (a.set i (some ⟨.no, .adr p⟩))
def wmNewK (i : Nat) : WM := fun g D a => ∀ p, gAt g p = none → D.nx ((p, .dK []) :: g) (a.set i (some ⟨.no, .adr p⟩))
theorem gAt_free {K : PySem.W.Frag} {E : En} {F H : Hp} {σ : L2.St} {a : PSt} {g : Gm} (R : RelG K E F H σ a g) {p : Addr} (h : H p = none) : gAt g p = none := by
  cases e : gAt g p with
  | none => rfl
  | some d =>
    obtain ⟨_, _, _, o, ho, _⟩ := R.m p d e
    rw [h] at ho
    cases ho
theorem sm_newT {i : Nat} {x : Str} {pos' p2 : Pos} (hN : X.N.Nodup) (hi : X.N[i]? = some x) (hx : Loc X.env.scope x) (hs : swapsWith (.Dict [] [] p2) (some (.Name x pos')) pos.line X.env = pure false := by rfl) (hf : X.fn x = true ∨ X.env.scope.names.lookup x = some .local := by first | exact .inl rfl | exact .inr rfl | assumption) :
    SM X W (.Assign [.Name x pos'] (.Dict [] [] p2) pos) (tAsg tDNewT (gName i)) (wmNewT i) :=
  ⟨ps_set hN hi hx pe_dnewT hs hf, fun E F H σ a g D DA R hw l p hp => l.nx _ F _ _ _ (Same.refl F) ((R.layM hp (.dT .nil)).setDat (.adr p)) (hw p (gAt_free R hp))⟩
theorem sm_newK {i : Nat} {x : Str} {pos' p2 : Pos} (hN : X.N.Nodup) (hi : X.N[i]? = some x) (hx : Loc X.env.scope x) (hs : swapsWith (.Dict [] [] p2) (some (.Name x pos')) pos.line X.env = pure false := by rfl) (hf : X.fn x = true ∨ X.env.scope.names.lookup x = some .local := by first | exact .inl rfl | exact .inr rfl | assumption) :
    SM X W (.Assign [.Name x pos'] (.Dict [] [] p2) pos) (tAsg tDNewK (gName i)) (wmNewK i) :=
  ⟨ps_set hN hi hx pe_dnewK hs hf, fun E F H σ a g D DA R hw l p hp => l.nx _ F _ _ _ (Same.refl F) ((R.layM hp (.dK .nil)).setDat (.adr p)) (hw p (gAt_free R hp))⟩
end
end DS

namespace DS
open PySem PySem.Spec PyProof.Rows L2

/-! ### d.setdefault(k, x), d's keys ints and texts, or tuples of them -/
def rSetdA : V → List V → Hp → VK → Prop := fun x xs H Q =>
  (∃ (a : Addr) (kvs : List (L2.Key × V)) (k : L2.Key) (d : V), x = .ref a ∧ xs = [kV k, d] ∧ H a = some (.dK kvs) ∧ kvs.length < sizeLine ∧ (∀ v, valV kvs k = some v → Q v H) ∧ (valV kvs k = none → Q d (upd H a (.dK (putK kvs k d))))) ∨
  (∃ (a : Addr) (kvs : List (List L2.Key × V)) (k : List L2.Key) (b : Addr) (d : V), x = .ref a ∧ xs = [.ref b, d] ∧ H a = some (.dT kvs) ∧ H b = some (.tup (k.map kV)) ∧ kvs.length < sizeLine ∧ (∀ v, valV kvs k = some v → Q v H) ∧ (valV kvs k = none → Q d (upd H a (.dT (putK kvs k d)))))
section
variable {X : Cx}
theorem mt_setd (hu : X.A.units + 1 < cLine) : MtR X "dict.setdefault" rSetdA := by
  intro pins s σ H x xs v us Q I rx rxs h
  rcases h with ⟨a, kvs, k, d, rfl, rfl, ha, hl, q1, q2⟩ | ⟨a, kvs, k, b, d, rfl, rfl, ha, hb, hl, q1, q2⟩
  · cases rx
    obtain ⟨u1, u2, rfl, r1, r2⟩ := vals2 rxs
    exact d_setd I ha r1 r2 hl (fun v hv w' s4 I4 rw' => ⟨v, _, I4, rw', q1 v hv⟩) fun hn w' s4 I4 rw' => ⟨d, _, I4, rw', q2 hn⟩
  · cases rx
    obtain ⟨u1, u2, rfl, r1, r2⟩ := vals2 rxs
    cases r1
    obtain ⟨z, hd, xs', rel, dd⟩ := L2.dt_of I.hok ha
    have hz : xs'.length ≤ sizeLine := by rw [← Paired.length rel]; exact z
    refine call_setdefault_heap (knd := tupleKind (mixKind X.prog X.w)) (k := k) (tupleKind_room_in1 hu) (key_of I.hok hb) hd dd (fun p hp => ?_) (fun hn h' dd' hs => ?_) hz
    · have r := rel.val k
      rw [hp] at r
      obtain ⟨v0, ev, rv⟩ : ∃ v0, valV kvs k = some v0 ∧ RelV v0 p.2 := by
        cases ev : valV kvs k with
        | none =>
          rw [ev] at r
          exact (show False from r).elim
        | some v0 =>
          rw [ev] at r
          exact ⟨v0, rfl, r⟩
      exact ⟨v0, H, I.tok _, rv, q1 v0 ev⟩
    · have r := rel.val k
      rw [hn] at r
      have e : valV kvs k = none := by
        cases ev : valV kvs k with
        | none => rfl
        | some v0 =>
          rw [ev] at r
          exact (show False from r).elim
      obtain ⟨o, es, ep, hq, h2, h3, h4, _, h5⟩ := dd'
      have hz2 : (putK kvs k d).length ≤ sizeLine := by
        have := length_putK kvs k d
        omega
      have I2 := d_write (t' := s.toks + (tupleKind (mixKind X.prog X.w)).draws k) (ob := .dT (putK kvs k d)) I (by rw [ha]; exact True.intro) hs ⟨o, hq⟩
        ⟨hz2, hd, _, (rel.put k hb r2).keeps (fun c ys ec => (by rw [upd_ne (ne_of ec ha (fun z => nomatch z))]; exact ec)), o, es, ep, hq, h2, h3, h4, h5⟩
      exact ⟨d, _, I2, r2, q2 e⟩
end
/-! ### .. as a word -/
def onAdr (x : Option (Option AV)) (f : Addr → Prop) : Prop := match x with
  | some (some ⟨.no, .adr p⟩) => f p
  | _ => False
theorem onAdr_iff {x : Option (Option AV)} {f : Addr → Prop} : onAdr x f ↔ ∃ p, x = some (some ⟨.no, .adr p⟩) ∧ f p := by
  constructor
  · intro h
    unfold onAdr at h
    split at h
    · exact ⟨_, rfl, h⟩
    · exact h.elim
  · rintro ⟨p, rfl, h⟩
    exact h
def onLs (x : Option D) (f : List D → Prop) : Prop := match x with
  | some (.lst xs) => f xs
  | _ => False
theorem onLs_iff {x : Option D} {f : List D → Prop} : onLs x f ↔ ∃ xs, x = some (.lst xs) ∧ f xs := by
  constructor
  · intro h
    unfold onLs at h
    split at h
    · exact ⟨_, rfl, h⟩
    · exact h.elim
  · rintro ⟨p, rfl, h⟩
    exact h
theorem onLs_of {x : Option D} {f : List D → Prop} {xs : List D} (h : x = some (.lst xs)) (hf : f xs) : onLs x f := by rw [h]; exact hf
def isDict : D → Prop
  | .dT _ => True
  | .dK _ => True
  | _ => False
def sdS (c y : D) (k : Option D → (D → D) → Prop) : Prop := match c, y with
  | .dT kvs, .tup ys => onO (keysD ys) fun key => kvs.length < sizeLine ∧ k (valD kvs key) (fun d => .dT (putD kvs key d))
  | .dK kvs, y => onO (keyD y) fun key => kvs.length < sizeLine ∧ k (valD kvs key) (fun d => .dK (putD kvs key d))
  | _, _ => False
def sdK (root : Addr) (g : Gm) (k : Addr → Gm → Prop) (o : Option D) (put : D → D) : Prop := match o with
  | some (.adr q) => k q g
  | some _ => False
  | none => ∀ q, gAt g q = none → k q ((root, put (.adr q)) :: (q, .lst []) :: g)
/-- x.setdefault(k, []) -/
def wmSd (i : Nat) (wk : WE) (g : Gm) (a : PSt) (k : Addr → Gm → PSt → Prop) (ex : Exc → PSt → Prop) : Prop :=
  onAdr a[i]? fun root => onO (gAt g root) fun c => isDict c ∧ wk a (fun rk a1 => onO (con a1 rk) fun y => sdS c y (sdK root g fun q g2 => k q g2 a1)) ex
section
variable {X : Cx} {W : L2.St → XK} {e kx : Expr} {pos : Pos} {ta tk : TE} {w wk : WE}
theorem slot_adr {K : PySem.W.Frag} {E : En} {F H : Hp} {σ : L2.St} {a : PSt} (R : Rel K E F H σ a) {i : Nat} {p : Addr} (h : a[i]? = some (some ⟨.no, .adr p⟩)) : σ[i]? = some (some (.ref p)) := by
  obtain ⟨v, e, q⟩ := R.sl i _ h
  have q : Rep K F v (.adr p) := q
  cases q
  exact e
theorem top_lst {K : PySem.W.Frag} {F : Hp} {o : HO} {xs : List D} (t : Top K F o (.lst xs)) : ∃ vs, o = .lst vs ∧ Reps K F vs xs := by
  cases t with | lst r => exact ⟨_, rfl, r⟩
/-- the receiver, the key, the empty list and what setdefault gives -/
theorem sd_core {E : En} {F H : Hp} {σ : L2.St} {a : PSt} {g : Gm} {i : Nat} {k : Addr → Gm → PSt → Prop} {ex : Exc → PSt → Prop} {Q : VK} (hk : SE X W kx tk wk) (R : RelG X.K E F H σ a g) (h : wmSd i wk g a k ex) (lx : Lx X.K E F σ ex (W σ))
    (l : ∀ q g2 a1 F1 H1, Same F F1 → RelG X.K E F1 H1 σ a1 g2 → k q g2 a1 → Q (.ref q) H1) : tBM X.K "dict" rSetdA (tVar i) (tCons tk (tCons (tLst tNil) tNil)) σ H Q := by
  obtain ⟨root, ha, h⟩ := onAdr_iff.mp h
  obtain ⟨c, hc, hd, h⟩ := onO_iff.mp h
  obtain ⟨f1, f2, f3, o, ho, t⟩ := R.m root c hc
  refine ⟨.ref root, slot_adr R.r ha, .inr (.inr (.inl ⟨rfl, ?_⟩)), hk.2 (E.mem H g) F H σ a _ _ _ R.to h (fun v rk F1 H1 a1 e1 R1 rp hq => ?_) (lx_mem R lx)⟩
  · cases t with
    | dK r => exact .inl ⟨_, ho⟩
    | dT r => exact .inr ⟨_, ho⟩
    | _ => exact hd.elim
  · obtain ⟨y, hy, hs⟩ := onO_iff.mp hq
    have hy := rd_of R1 rp hy
    have R1 := R.of e1 R1
    refine ⟨by simp, fun p hp => ?_⟩
    obtain ⟨_, _, _, o1, ho1, t1⟩ := R1.m root c hc
    have hrp : root ≠ p := ne_of_none ho1 hp
    have ho2 : upd H1 p (.lst []) root = some o1 := by rw [upd_ne hrp]; exact ho1
    have R2 := R1.layM hp (Top.lst (K := X.K) (F := F1) (vs := []) (ds := []) .nil)
    have hgp : gAt g p = none := gAt_free R1 hp
    have hc2 : gAt ((p, .lst []) :: g) root = some c := by rw [gAt_ne (Ne.symm hrp)]; exact hc
    unfold sdS at hs
    split at hs
    · rename_i ds _ _
      obtain ⟨key, hkey, hz, hs⟩ := onO_iff.mp hs
      cases t1 with
      | @dT vs _ r =>
        obtain ⟨b, rfl, hb⟩ := tup_rd R1.r.ext hy hkey
        obtain ⟨r1, r2⟩ := r.val key
        refine .inr ⟨root, vs, key, b, .ref p, rfl, rfl, ho2, by rw [upd_ne (ne_of_none hb hp)]; exact hb, by rw [r.len]; exact hz, fun v hv => ?_, fun hv => ?_⟩
        · cases hd2 : valD ds key with
          | none => rw [r2 hd2] at hv; cases hv
          | some d =>
            obtain ⟨v', e3, rv⟩ := r1 d hd2
            rw [hv] at e3
            cases e3
            rw [hd2] at hs
            unfold sdK at hs
            split at hs
            · rename_i q e4
              cases e4
              cases rv
              exact l _ g a1 F1 _ e1 (R1.lay _ hp) hs
            · exact hs.elim
            · rename_i e4
              cases e4
        · cases hd2 : valD ds key with
          | some d =>
            obtain ⟨v', e3, rv⟩ := r1 d hd2
            rw [hv] at e3
            cases e3
          | none =>
            rw [hd2] at hs
            exact l p _ a1 F1 _ e1 (R2.writeM hc2 (.dT (r.put (.adr p)))) (hs p hgp)
    · rename_i ds
      obtain ⟨key, hkey, hz, hs⟩ := onO_iff.mp hs
      cases t1 with
      | @dK vs _ r =>
        obtain rfl := key_rd hy hkey
        obtain ⟨r1, r2⟩ := r.val key
        refine .inl ⟨root, vs, key, .ref p, rfl, rfl, ho2, by rw [r.len]; exact hz, fun v hv => ?_, fun hv => ?_⟩
        · cases hd2 : valD ds key with
          | none => rw [r2 hd2] at hv; cases hv
          | some d =>
            obtain ⟨v', e3, rv⟩ := r1 d hd2
            rw [hv] at e3
            cases e3
            rw [hd2] at hs
            unfold sdK at hs
            split at hs
            · rename_i q e4
              cases e4
              cases rv
              exact l _ g a1 F1 _ e1 (R1.lay _ hp) hs
            · exact hs.elim
            · rename_i e4
              cases e4
        · cases hd2 : valD ds key with
          | some d =>
            obtain ⟨v', e3, rv⟩ := r1 d hd2
            rw [hv] at e3
            cases e3
          | none =>
            rw [hd2] at hs
            exact l p _ a1 F1 _ e1 (R2.writeM hc2 (.dK (r.put (.adr p)))) (hs p hgp)
    · exact hs.elim
theorem pe_sd (hu : X.A.units + 1 < cLine) {i : Nat} {o : Expr} {lp : Pos} {apos cpos : Pos} (ho : PE X o (tVar i)) (hk : PE X kx tk) (hbase : attributeBase o "setdefault" X.env (eval o X.env) = eval o X.env := by rfl)
    (hfew : ((backTo cpos (starEach [kx, .List [] lp] X.env)).all (fun x => !x.1) && (backToKw cpos (keywordEach [] X.env)).all (fun x => x.1.isSome) && decide (([kx, Expr.List [] lp] : List Expr).length + ([] : List Keyword).length + (if ([] : List Keyword).isEmpty then 0 else 1) < 30)) = true := by rfl)
    (hline : (apos.endLine == cpos.line) = true := by rfl) (hst : starEach [kx, .List [] lp] X.env = (false, eval kx X.env) :: starEach [.List [] lp] X.env := by rfl) (hst2 : starEach [.List [] lp] X.env = (false, eval (.List [] lp) X.env) :: starEach [] X.env := by rfl) (hplain : (backTo cpos (starEach [.List [] lp] X.env)).any (·.1) = false := by rfl) :
    PE X (.Call (.Attribute o "setdefault" apos) [kx, .List [] lp] [] cpos) (tBM X.K "dict" rSetdA (tVar i) (tCons tk (tCons (tLst tNil) tNil))) :=
  pe_bm PySem.F.plainAttrs_dict PySem.F.slot_dict_setdefault PySem.F.type_dict_setdefault (mt_setd hu) ho (pa_cons hk (pa_cons (pe_lst pa_nil) pa_nil hst2) hst) hbase hfew hline hst hplain
/-- x.setdefault(k, []).append(e) -/
def wmSdApp (i : Nat) (wk w : WE) : WM := fun g D a => wmSd i wk g a (fun q g2 a1 => onLs (gAt g2 q) fun _ => w a1 (fun r a2 => fz r a2 fun d a3 => onLs (gAt g2 q) fun xs => xs.length < sizeLine ∧ D.nx ((q, .lst (xs ++ [d])) :: g2) a3) D.ex) D.ex
theorem app_core {E : En} {F H : Hp} {σ : L2.St} {a : PSt} {g : Gm} {q : Addr} {D : Ends} {DA : EndsG} (h : SE X W e ta w) (R : RelG X.K E F H σ a g) (hw : onLs (gAt g q) fun _ => w a (fun r a2 => fz r a2 fun d a3 => onLs (gAt g q) fun xs => xs.length < sizeLine ∧ DA.nx ((q, .lst (xs ++ [d])) :: g) a3) DA.ex) (l : LkG X.K E F D DA W) :
    tyV X.K "list" (.ref q) H ∧ tCons ta tNil σ H fun xs H2 => rAppend (.ref q) xs H2 fun _ H1 => D.nx σ H1 := by
  obtain ⟨xs, hx, hw⟩ := onLs_iff.mp hw
  obtain ⟨_, _, _, o, ho, t⟩ := R.m q _ hx
  obtain ⟨vs, rfl, _⟩ := top_lst t
  refine ⟨.inl ⟨rfl, vs, .of ho⟩, h.2 (E.mem H g) F H σ a _ _ _ R.to hw (fun u r F' H' a' e R' rp hq => ?_) (lx_mem R (l.ex σ))⟩
  obtain ⟨F2, a2, d, s, R2, rp2, q2⟩ := fz_ok R' rp hq
  have R2 := R.of (e.trans s) R2
  obtain ⟨ys, hy, hz, hk⟩ := onLs_iff.mp q2
  obtain ⟨_, _, _, o2, ho2, t2⟩ := R2.m q _ hy
  obtain ⟨us, rfl, r2⟩ := top_lst t2
  exact ⟨q, us, u, rfl, rfl, ho2, by rw [r2.length]; exact hz, l.nx _ F2 _ _ _ (e.trans s) (R2.writeM hy (.lst (r2.append (.cons rp2 .nil)))) hk⟩
theorem sm_sdapp (hu : X.A.units + 1 < cLine) {i : Nat} {o : Expr} {lp : Pos} {apos cpos apos2 cpos2 : Pos} (ho : PE X o (tVar i)) (hk : SE X W kx tk wk) (h : SE X W e ta w)
    (hbase : attributeBase o "setdefault" X.env (eval o X.env) = eval o X.env := by rfl)
    (hfew : ((backTo cpos (starEach [kx, .List [] lp] X.env)).all (fun x => !x.1) && (backToKw cpos (keywordEach [] X.env)).all (fun x => x.1.isSome) && decide (([kx, Expr.List [] lp] : List Expr).length + ([] : List Keyword).length + (if ([] : List Keyword).isEmpty then 0 else 1) < 30)) = true := by rfl)
    (hline : (apos.endLine == cpos.line) = true := by rfl) (hst : starEach [kx, .List [] lp] X.env = (false, eval kx X.env) :: starEach [.List [] lp] X.env := by rfl) (hst2 : starEach [.List [] lp] X.env = (false, eval (.List [] lp) X.env) :: starEach [] X.env := by rfl) (hplain : (backTo cpos (starEach [.List [] lp] X.env)).any (·.1) = false := by rfl)
    (hbase2 : attributeBase (.Call (.Attribute o "setdefault" apos) [kx, .List [] lp] [] cpos) "append" X.env (eval (.Call (.Attribute o "setdefault" apos) [kx, .List [] lp] [] cpos) X.env) = eval (.Call (.Attribute o "setdefault" apos) [kx, .List [] lp] [] cpos) X.env := by rfl)
    (hfew2 : ((backTo cpos2 (starEach [e] X.env)).all (fun x => !x.1) && (backToKw cpos2 (keywordEach [] X.env)).all (fun x => x.1.isSome) && decide (([e] : List Expr).length + ([] : List Keyword).length + (if ([] : List Keyword).isEmpty then 0 else 1) < 30)) = true := by rfl)
    (hline2 : (apos2.endLine == cpos2.line) = true := by rfl) (hst3 : starEach [e] X.env = (false, eval e X.env) :: starEach [] X.env := by rfl) (hplain2 : (backTo cpos2 (starEach [] X.env)).any (·.1) = false := by rfl)
    (hs : swapsWith (.Call (.Attribute (.Call (.Attribute o "setdefault" apos) [kx, .List [] lp] [] cpos) "append" apos2) [e] [] cpos2) none pos.line X.env = pure false := by rfl) :
    SM X W (.Expr (.Call (.Attribute (.Call (.Attribute o "setdefault" apos) [kx, .List [] lp] [] cpos) "append" apos2) [e] [] cpos2) pos) (tDrop (tBM X.K "list" rAppend (tBM X.K "dict" rSetdA (tVar i) (tCons tk (tCons (tLst tNil) tNil))) (tCons ta tNil))) (wmSdApp i wk w) := by
  refine ⟨ps_expr (pe_bm PySem.F.plainAttrs_list PySem.F.slot_list_append PySem.F.type_list_append mt_append (pe_sd hu ho hk.1 hbase hfew hline hst hst2 hplain) (pa_cons h.1 pa_nil hst3) hbase2 hfew2 hline2 hst3 hplain2) hs, fun E F H σ a g D DA R hw l => ?_⟩
  exact sd_core hk R hw (l.ex σ) fun q g2 a1 F1 H1 s R1 hq => app_core h R1 hq (l.to s)
/-- y = x.setdefault(k, []) -/
def wmSdSet (j i : Nat) (wk : WE) : WM := fun g D a => wmSd i wk g a (fun q g2 a1 => D.nx g2 (a1.set j (some ⟨.no, .adr q⟩))) D.ex
theorem sm_sdset (hu : X.A.units + 1 < cLine) {i j : Nat} {x : Str} {pos' : Pos} {o : Expr} {lp : Pos} {apos cpos : Pos} (hN : X.N.Nodup) (hi : X.N[j]? = some x) (hx : Loc X.env.scope x) (ho : PE X o (tVar i)) (hk : SE X W kx tk wk)
    (hbase : attributeBase o "setdefault" X.env (eval o X.env) = eval o X.env := by rfl)
    (hfew : ((backTo cpos (starEach [kx, .List [] lp] X.env)).all (fun x => !x.1) && (backToKw cpos (keywordEach [] X.env)).all (fun x => x.1.isSome) && decide (([kx, Expr.List [] lp] : List Expr).length + ([] : List Keyword).length + (if ([] : List Keyword).isEmpty then 0 else 1) < 30)) = true := by rfl)
    (hline : (apos.endLine == cpos.line) = true := by rfl) (hst : starEach [kx, .List [] lp] X.env = (false, eval kx X.env) :: starEach [.List [] lp] X.env := by rfl) (hst2 : starEach [.List [] lp] X.env = (false, eval (.List [] lp) X.env) :: starEach [] X.env := by rfl) (hplain : (backTo cpos (starEach [.List [] lp] X.env)).any (·.1) = false := by rfl)
    (hs : swapsWith (.Call (.Attribute o "setdefault" apos) [kx, .List [] lp] [] cpos) (some (.Name x pos')) pos.line X.env = pure false := by rfl) (hf : X.fn x = true ∨ X.env.scope.names.lookup x = some .local := by first | exact .inl rfl | exact .inr rfl | assumption) :
    SM X W (.Assign [.Name x pos'] (.Call (.Attribute o "setdefault" apos) [kx, .List [] lp] [] cpos) pos) (tAsg (tBM X.K "dict" rSetdA (tVar i) (tCons tk (tCons (tLst tNil) tNil))) (gName j)) (wmSdSet j i wk) := by
  refine ⟨ps_set hN hi hx (pe_sd hu ho hk.1 hbase hfew hline hst hst2 hplain) hs hf, fun E F H σ a g D DA R hw l => ?_⟩
  exact sd_core hk R hw (l.ex σ) fun q g2 a1 F1 H1 s R1 hq => l.nx _ F1 _ _ _ s (R1.setDat (.adr q)) hq
/-- y.append(e), y a list of the memory -/
def wmApp (i : Nat) (w : WE) : WM := fun g D a => onAdr a[i]? fun q => onLs (gAt g q) fun _ => w a (fun r a2 => fz r a2 fun d a3 => onLs (gAt g q) fun xs => xs.length < sizeLine ∧ D.nx ((q, .lst (xs ++ [d])) :: g) a3) D.ex
theorem sm_app {i : Nat} {o : Expr} {apos cpos : Pos} (ho : PE X o (tVar i)) (h : SE X W e ta w) (hbase : attributeBase o "append" X.env (eval o X.env) = eval o X.env := by rfl)
    (hfew : ((backTo cpos (starEach [e] X.env)).all (fun x => !x.1) && (backToKw cpos (keywordEach [] X.env)).all (fun x => x.1.isSome) && decide (([e] : List Expr).length + ([] : List Keyword).length + (if ([] : List Keyword).isEmpty then 0 else 1) < 30)) = true := by rfl)
    (hline : (apos.endLine == cpos.line) = true := by rfl) (hst : starEach [e] X.env = (false, eval e X.env) :: starEach [] X.env := by rfl) (hplain : (backTo cpos (starEach [] X.env)).any (·.1) = false := by rfl)
    (hs : swapsWith (.Call (.Attribute o "append" apos) [e] [] cpos) none pos.line X.env = pure false := by rfl) :
    SM X W (.Expr (.Call (.Attribute o "append" apos) [e] [] cpos) pos) (tDrop (tBM X.K "list" rAppend (tVar i) (tCons ta tNil))) (wmApp i w) := by
  refine ⟨ps_expr (pe_bm PySem.F.plainAttrs_list PySem.F.slot_list_append PySem.F.type_list_append mt_append ho (pa_cons h.1 pa_nil hst) hbase hfew hline hst hplain) hs, fun E F H σ a g D DA R hw l => ?_⟩
  obtain ⟨q, ha, hw⟩ := onAdr_iff.mp hw
  exact ⟨.ref q, slot_adr R.r ha, app_core h R hw l⟩
end
end DS

namespace DS
open PySem PySem.Spec PyProof.Rows L2

/-! ### a dict of lists in the memory -/
theorem nd_inj {α β : Type} {f : α → β} : ∀ {l : List α}, (l.map f).Nodup → ∀ a, a ∈ l → ∀ b, b ∈ l → f a = f b → a = b
  | [], _, a, ha, _, _, _ => by cases ha
  | x :: l, h, a, ha, b, hb, e => by
    rw [List.map_cons, List.nodup_cons] at h
    rcases List.mem_cons.mp ha with ha' | ha
    · rcases List.mem_cons.mp hb with hb' | hb
      · rw [ha', hb']
      · exact absurd (List.mem_map.mpr ⟨b, hb, by rw [← e, ha']⟩) h.1
    · rcases List.mem_cons.mp hb with hb' | hb
      · exact absurd (List.mem_map.mpr ⟨a, ha, by rw [e, hb']⟩) h.1
      · exact nd_inj h.2 a ha b hb e
structure TabG {κ : Type} (mk : List (κ × D) → D) (g : Gm) (root : Addr) (es : List (κ × Addr × List D)) : Prop where
  top : gAt g root = some (mk (es.map fun e => (e.1, .adr e.2.1)))
  kid : ∀ e, e ∈ es → gAt g e.2.1 = some (.lst e.2.2)
  nd : (es.map fun e => e.2.1).Nodup
  nr : ∀ e, e ∈ es → e.2.1 ≠ root
  kd : (es.map fun e => e.1).Nodup
def tabOf {κ : Type} (es : List (κ × Addr × List D)) : List (κ × List D) := es.map fun e => (e.1, e.2.2)
def addT {κ : Type} [DecidableEq κ] (T : List (κ × List D)) (k : κ) (d : D) : List (κ × List D) :=
  if (T.any fun e => decide (e.1 = k)) = true then T.map (fun e => if e.1 = k then (e.1, e.2 ++ [d]) else e) else T ++ [(k, [d])]
section
variable {κ : Type} [DecidableEq κ] {mk : List (κ × D) → D} {g : Gm} {root : Addr} {es : List (κ × Addr × List D)} {key : κ}
theorem tab_nil (h : gAt g root = some (mk [])) : TabG mk g root [] := ⟨h, fun e he => absurd he (List.not_mem_nil), List.nodup_nil, fun e he => absurd he (List.not_mem_nil), List.nodup_nil⟩
theorem valD_es (key : κ) : ∀ es : List (κ × Addr × List D), (∃ e, e ∈ es ∧ e.1 = key ∧ valD (es.map fun e => (e.1, D.adr e.2.1)) key = some (.adr e.2.1) ∧ valD (tabOf es) key = some e.2.2) ∨ ((∀ e, e ∈ es → e.1 ≠ key) ∧ valD (es.map fun e => (e.1, D.adr e.2.1)) key = none ∧ valD (tabOf es) key = none)
  | [] => .inr ⟨fun e he => absurd he (List.not_mem_nil), valD_nil, valD_nil⟩
  | x :: es => by
    rw [List.map_cons, show tabOf (x :: es) = (x.1, x.2.2) :: tabOf es from rfl]
    by_cases e : x.1 = key
    · exact .inl ⟨x, List.mem_cons_self .., e, by rw [valD_cons, if_pos e], by rw [valD_cons, if_pos e]⟩
    · rcases valD_es key es with ⟨y, h1, h2, h3, h4⟩ | ⟨h1, h2, h3⟩
      · exact .inl ⟨y, List.mem_cons_of_mem _ h1, h2, by rw [valD_cons, if_neg e]; exact h3, by rw [valD_cons, if_neg e]; exact h4⟩
      · refine .inr ⟨fun y hy => ?_, by rw [valD_cons, if_neg e]; exact h2, by rw [valD_cons, if_neg e]; exact h3⟩
        rcases List.mem_cons.mp hy with rfl | hy
        · exact e
        · exact h1 y hy
theorem tab_step (h : TabG mk g root es) {k : Addr → Gm → Prop}
    (hc : ∀ q g2 xs, gAt g2 q = some (.lst xs) → xs = (valD (tabOf es) key).getD [] → (∀ d, ∃ es', TabG mk ((q, .lst (xs ++ [d])) :: g2) root es' ∧ tabOf es' = addT (tabOf es) key d) → k q g2) :
    sdK root g k (valD (es.map fun e => (e.1, .adr e.2.1)) key) (fun d => mk (putD (es.map fun e => (e.1, .adr e.2.1)) key d)) := by
  rcases valD_es key es with ⟨e, he, hk, hv, hv2⟩ | ⟨hn, hv, hv2⟩
  · rw [hv]
    have hq := h.kid e he
    refine hc e.2.1 g e.2.2 hq (by rw [hv2]; rfl) fun d => ⟨es.map fun x => if x.1 = key then (x.1, x.2.1, x.2.2 ++ [d]) else x, ?_, ?_⟩
    · have hm : ∀ {β : Type} (f : κ → Addr → β), (es.map fun x => if x.1 = key then (x.1, x.2.1, x.2.2 ++ [d]) else x).map (fun x => f x.1 x.2.1) = es.map fun x => f x.1 x.2.1 := fun f => by
        rw [List.map_map]
        refine List.map_congr_left fun x _ => ?_
        show f (if x.1 = key then _ else x).1 (if x.1 = key then _ else x).2.1 = _
        split <;> rfl
      refine ⟨?_, fun x hx => ?_, ?_, fun x hx => ?_, ?_⟩
      · rw [gAt_ne (h.nr e he), h.top]
        rw [show ((es.map fun x => if x.1 = key then (x.1, x.2.1, x.2.2 ++ [d]) else x).map fun e => (e.1, D.adr e.2.1)) = es.map fun e => (e.1, D.adr e.2.1) from hm fun a b => (a, D.adr b)]
      · obtain ⟨y, hy, rfl⟩ := List.mem_map.mp hx
        by_cases z : y.1 = key
        · obtain rfl := nd_inj h.kd y hy e he (by rw [z, hk])
          rw [if_pos z]
          exact gAt_same
        · rw [if_neg z]
          have : e.2.1 ≠ y.2.1 := fun w => z (by rw [← nd_inj h.nd e he y hy w]; exact hk)
          rw [gAt_ne this]
          exact h.kid y hy
      · rw [show ((es.map fun x => if x.1 = key then (x.1, x.2.1, x.2.2 ++ [d]) else x).map fun e => e.2.1) = es.map fun e => e.2.1 from hm fun a b => b]
        exact h.nd
      · obtain ⟨y, hy, rfl⟩ := List.mem_map.mp hx
        have := h.nr y hy
        split
        · exact this
        · exact this
      · rw [show ((es.map fun x => if x.1 = key then (x.1, x.2.1, x.2.2 ++ [d]) else x).map fun e => e.1) = es.map fun e => e.1 from hm fun a b => a]
        exact h.kd
    · have hany : ((tabOf es).any fun e => decide (e.1 = key)) = true := List.any_eq_true.mpr ⟨(e.1, e.2.2), List.mem_map.mpr ⟨e, he, rfl⟩, by simpa using hk⟩
      unfold addT
      rw [if_pos hany]
      unfold tabOf
      rw [List.map_map, List.map_map]
      refine List.map_congr_left fun x _ => ?_
      show ((if x.1 = key then (x.1, x.2.1, x.2.2 ++ [d]) else x).1, (if x.1 = key then (x.1, x.2.1, x.2.2 ++ [d]) else x).2.2) = if x.1 = key then (x.1, x.2.2 ++ [d]) else (x.1, x.2.2)
      split <;> rfl
  · rw [hv]
    intro q hq
    have hqr : root ≠ q := fun z => by rw [← z, h.top] at hq; cases hq
    have hqk : ∀ e, e ∈ es → e.2.1 ≠ q := fun e he z => by
      have := h.kid e he
      rw [z, hq] at this
      cases this
    have hg : gAt ((root, mk (putD (es.map fun e => (e.1, D.adr e.2.1)) key (.adr q))) :: (q, .lst []) :: g) q = some (.lst []) := by rw [gAt_ne hqr]; exact gAt_same
    refine hc q _ [] hg (by rw [hv2]; rfl) fun d => ⟨es ++ [(key, q, [d])], ?_, ?_⟩
    · refine ⟨?_, fun x hx => ?_, ?_, fun x hx => ?_, ?_⟩
      · rw [gAt_ne (Ne.symm hqr), gAt_same]
        refine congrArg (fun z => some (mk z)) ?_
        show putD (es.map fun e => (e.1, D.adr e.2.1)) key (D.adr q) = _
        unfold putD
        rw [if_neg, List.map_append]
        · rfl
        · intro z
          obtain ⟨y, hy, hz⟩ := List.any_eq_true.mp z
          obtain ⟨x, hx, rfl⟩ := List.mem_map.mp hy
          exact hn x hx (by simpa using hz)
      · rcases List.mem_append.mp hx with hx | hx
        · rw [gAt_ne (Ne.symm (hqk x hx)), gAt_ne (Ne.symm (h.nr x hx)), gAt_ne (Ne.symm (hqk x hx))]
          exact h.kid x hx
        · obtain rfl := List.mem_singleton.mp hx
          exact gAt_same
      · rw [List.map_append, List.nodup_append]
        refine ⟨h.nd, by simp, fun a ha b hb => ?_⟩
        obtain ⟨x, hx, rfl⟩ := List.mem_map.mp ha
        obtain rfl : b = q := by simpa using hb
        exact hqk x hx
      · rcases List.mem_append.mp hx with hx | hx
        · exact h.nr x hx
        · obtain rfl := List.mem_singleton.mp hx
          exact Ne.symm hqr
      · rw [List.map_append, List.nodup_append]
        refine ⟨h.kd, by simp, fun a ha b hb => ?_⟩
        obtain ⟨x, hx, rfl⟩ := List.mem_map.mp ha
        obtain rfl : b = key := by simpa using hb
        exact hn x hx
    · unfold addT tabOf
      rw [if_neg, List.map_append]
      · rfl
      · intro z
        obtain ⟨y, hy, hz⟩ := List.any_eq_true.mp z
        obtain ⟨x, hx, rfl⟩ := List.mem_map.mp hy
        exact hn x hx (by simpa using hz)
end
theorem sd_tabT {g : Gm} {root : Addr} {es : List (List L2.Key × Addr × List D)} {key : List L2.Key} {ys : List D} (h : TabG D.dT g root es) (hk : keysD ys = some key) (hl : es.length < sizeLine) {k : Addr → Gm → Prop}
    (hc : ∀ q g2 xs, gAt g2 q = some (.lst xs) → xs = (valD (tabOf es) key).getD [] → (∀ d, ∃ es', TabG D.dT ((q, .lst (xs ++ [d])) :: g2) root es' ∧ tabOf es' = addT (tabOf es) key d) → k q g2) :
    sdS (.dT (es.map fun e => (e.1, .adr e.2.1))) (.tup ys) (sdK root g k) := onO_of hk ⟨by rw [List.length_map]; exact hl, tab_step h hc⟩
theorem sd_tabK {g : Gm} {root : Addr} {es : List (L2.Key × Addr × List D)} {key : L2.Key} {y : D} (h : TabG D.dK g root es) (hk : keyD y = some key) (hl : es.length < sizeLine) {k : Addr → Gm → Prop}
    (hc : ∀ q g2 xs, gAt g2 q = some (.lst xs) → xs = (valD (tabOf es) key).getD [] → (∀ d, ∃ es', TabG D.dK ((q, .lst (xs ++ [d])) :: g2) root es' ∧ tabOf es' = addT (tabOf es) key d) → k q g2) :
    sdS (.dK (es.map fun e => (e.1, .adr e.2.1))) y (sdK root g k) := onO_of hk ⟨by rw [List.length_map]; exact hl, tab_step h hc⟩
/-- the lists join the frozen part -/
theorem freezeKids {κ : Type} {K : PySem.W.Frag} {E : En} {H : Hp} {σ : L2.St} {a : PSt} : ∀ (es : List (κ × Addr × List D)) (F : Hp) (g : Gm), RelG K E F H σ a g → (∀ e, e ∈ es → gAt g e.2.1 = some (.lst e.2.2)) → (es.map fun e => e.2.1).Nodup →
    ∃ F2 g2, Same F F2 ∧ RelG K E F2 H σ a g2 ∧ RepA K F2 (es.map fun e => (e.1, V.ref e.2.1)) (es.map fun e => (e.1, D.lst e.2.2)) ∧ ∀ q, (∀ e, e ∈ es → e.2.1 ≠ q) → gAt g2 q = gAt g q
  | [], F, g, R, _, _ => ⟨F, g, Same.refl F, R, .nil, fun _ _ => rfl⟩
  | e :: es, F, g, R, hk, hn => by
    rw [List.map_cons, List.nodup_cons] at hn
    have gf : ∀ q, gAt (g.filter fun x => decide (x.1 ≠ e.2.1)) q = if q = e.2.1 then none else gAt g q := fun q => by
      clear hk R
      induction g with
      | nil => rw [List.filter_nil]; split <;> rfl
      | cons x g ih =>
        by_cases z : x.1 = e.2.1
        · rw [List.filter_cons_of_neg (by simpa using z), ih]
          split
          · rfl
          · rename_i hq
            rw [show x = (x.1, x.2) from rfl, gAt_ne (fun y => hq (by rw [← y]; exact z))]
        · rw [List.filter_cons_of_pos (by simpa using z), show x = (x.1, x.2) from rfl, gAt_cons, gAt_cons, ih]
          by_cases y : x.1 = q
          · rw [if_pos y, if_pos y, if_neg (fun w => z (by rw [y]; exact w))]
          · rw [if_neg y, if_neg y]
    obtain ⟨F1, s1, R1, r1⟩ := R.freezeM (hk e (List.mem_cons_self ..)) (g.filter fun x => decide (x.1 ≠ e.2.1)) (fun q c hq => by
      rw [gf] at hq
      split at hq
      · cases hq
      · exact ⟨by assumption, hq⟩)
    obtain ⟨F2, g2, s2, R2, r2, hg⟩ := freezeKids es F1 _ R1 (fun x hx => by
      rw [gf, if_neg (fun z => hn.1 (List.mem_map.mpr ⟨x, hx, z⟩))]
      exact hk x (List.mem_cons_of_mem _ hx)) hn.2
    refine ⟨F2, g2, s1.trans s2, R2, .cons (r1.mono s2) r2, fun q hq => ?_⟩
    rw [hg q fun x hx => hq x (List.mem_cons_of_mem _ hx), gf, if_neg (fun z => hq e (List.mem_cons_self ..) z.symm)]
theorem reps_adr {κ : Type} {K : PySem.W.Frag} {F : Hp} : ∀ (es : List (κ × Addr × List D)) (vs : List (κ × V)), RepA K F vs (es.map fun e => (e.1, D.adr e.2.1)) → vs = es.map fun e => (e.1, V.ref e.2.1)
  | [], vs, r => by cases r; rfl
  | e :: es, vs, r => by
    rw [List.map_cons] at r
    cases r with
    | cons h t => cases h; rw [List.map_cons, reps_adr es _ t]
theorem tab_freezeT {K : PySem.W.Frag} {E : En} {F H : Hp} {σ : L2.St} {a : PSt} {g : Gm} {root : Addr} {es : List (List L2.Key × Addr × List D)} (R : RelG K E F H σ a g) (h : TabG D.dT g root es) :
    ∃ F2, Same F F2 ∧ Rel K E F2 H σ a ∧ Rep K F2 (.ref root) (.dT (es.map fun e => (e.1, D.lst e.2.2))) := by
  obtain ⟨F1, g1, s1, R1, r1, hg⟩ := freezeKids es F g R h.kid h.nd
  have hr : gAt g1 root = some (D.dT (es.map fun e => (e.1, .adr e.2.1))) := by rw [hg root h.nr]; exact h.top
  obtain ⟨f1, f2, f3, o, ho, t⟩ := R1.m root _ hr
  cases t with
  | dT r =>
    obtain rfl := reps_adr es _ r
    obtain ⟨s2, R2⟩ := R1.r.freeze ho f1 f2 f3
    exact ⟨_, s1.trans s2, R2, .dT upd_same (r1.mono s2)⟩
theorem tab_freezeK {K : PySem.W.Frag} {E : En} {F H : Hp} {σ : L2.St} {a : PSt} {g : Gm} {root : Addr} {es : List (L2.Key × Addr × List D)} (R : RelG K E F H σ a g) (h : TabG D.dK g root es) :
    ∃ F2, Same F F2 ∧ Rel K E F2 H σ a ∧ Rep K F2 (.ref root) (.dK (es.map fun e => (e.1, D.lst e.2.2))) := by
  obtain ⟨F1, g1, s1, R1, r1, hg⟩ := freezeKids es F g R h.kid h.nd
  have hr : gAt g1 root = some (D.dK (es.map fun e => (e.1, .adr e.2.1))) := by rw [hg root h.nr]; exact h.top
  obtain ⟨f1, f2, f3, o, ho, t⟩ := R1.m root _ hr
  cases t with
  | dK r =>
    obtain rfl := reps_adr es _ r
    obtain ⟨s2, R2⟩ := R1.r.freeze ho f1 f2 f3
    exact ⟨_, s1.trans s2, R2, .dK upd_same (r1.mono s2)⟩
section
variable {X : Cx} {W : L2.St → XK} {pos : Pos} {o : Expr} {i : Nat}
/-- return x, a dict of lists -/
def wmRetT (i : Nat) : WM := fun g DA a => onAdr a[i]? fun root => ∃ es : List (List L2.Key × Addr × List D), TabG D.dT g root es ∧ DA.rt ⟨.no, .dT ((tabOf es).map fun e => (e.1, .lst e.2))⟩ a
def wmRetK (i : Nat) : WM := fun g DA a => onAdr a[i]? fun root => ∃ es : List (L2.Key × Addr × List D), TabG D.dK g root es ∧ DA.rt ⟨.no, .dK ((tabOf es).map fun e => (e.1, .lst e.2))⟩ a
theorem sm_retT (ho : PE X o (tVar i)) : SM X W (.Return (some o) pos) (tRet (tVar i)) (wmRetT i) := by
  refine ⟨ps_ret ho, fun E F H σ a g DE DA R hw l => ?_⟩
  obtain ⟨root, ha, es, h, hr⟩ := onAdr_iff.mp hw
  obtain ⟨F2, s, R2, rp⟩ := tab_freezeT R h
  exact ⟨.ref root, slot_adr R.r ha, l.rt σ F2 H a _ _ s R2 (by unfold tabOf at *; rw [List.map_map]; exact rp) hr⟩
theorem sm_retK (ho : PE X o (tVar i)) : SM X W (.Return (some o) pos) (tRet (tVar i)) (wmRetK i) := by
  refine ⟨ps_ret ho, fun E F H σ a g DE DA R hw l => ?_⟩
  obtain ⟨root, ha, es, h, hr⟩ := onAdr_iff.mp hw
  obtain ⟨F2, s, R2, rp⟩ := tab_freezeK R h
  exact ⟨.ref root, slot_adr R.r ha, l.rt σ F2 H a _ _ s R2 (by unfold tabOf at *; rw [List.map_map]; exact rp) hr⟩
end
/-- a def's body over the memory -/
def mEnds (D : EndsA) : EndsG where
  nx := fun _ => D.nx
  rt := D.rt
  bk := fun _ => D.bk
  ct := fun _ => D.ct
  ex := D.ex
def wsOfM (w : WM) : WS := fun D a => w [] (mEnds D) a
theorem sss_ofM {X : Cx} {W : L2.St → XK} {st : List Stmt} {t : TS} {w : WM} (h : SMs X W st t w) : SSs X W st t (wsOfM w) :=
  ⟨h.1, fun E F H σ a D DA R hw l => h.2 E F H σ a [] D (mEnds DA) ⟨R, mem_nil⟩ hw ⟨fun σ' F' H' a' g e R' q => l.nx σ' F' H' a' e R'.r q, fun σ' F' H' a' g e R' q => l.bk σ' F' H' a' e R'.r q, fun σ' F' H' a' g e R' q => l.ct σ' F' H' a' e R'.r q, l.rt, l.ex⟩⟩
end DS

namespace DS
open PySem PySem.Spec PyProof.Rows L2

/-! ### reading along a path into the memory -/
abbrev WQ := Gm → PSt → (D → Prop) → Prop
def SQ (X : Cx) (e : Expr) (t : TE) (wr : WQ) : Prop := PE X e t ∧ ∀ E F H σ a g Q f, RelG X.K E F H σ a g → wr g a f → (∀ v d, Rep X.K F v d → f d → Q v H) → t σ H Q
section
variable {X : Cx} {W : L2.St → XK} {e b : Expr} {pos : Pos} {ta tb t : TE} {w : WE} {wr : WQ}
def wqVar (i : Nat) : WQ := fun g a f => match a[i]? with
  | some (some ⟨.no, d⟩) => f d
  | _ => False
theorem sq_var {i : Nat} (h : PE X e (tVar i)) : SQ X e (tVar i) (wqVar i) := by
  refine ⟨h, fun E F H σ a g Q f R hw k => ?_⟩
  unfold wqVar at hw
  split at hw
  · rename_i d hd
    obtain ⟨v, e1, q⟩ := R.r.sl i _ hd
    exact ⟨v, e1, k v d q hw⟩
  · exact hw.elim
def wqIx (i : Int) (wr : WQ) : WQ := fun g a f => wr g a fun d => match d with
  | .adr p => onLs (gAt g p) fun xs => onO (atI xs i) f
  | .tup xs => onO (atI xs i) f
  | .lst xs => onO (atI xs i) f
  | _ => False
theorem sq_ix {i : Int} (h : SQ X e ta wr) (hb : PE X b tb) (hs : PlainIx b) (hi : ∀ σ H Q, Q (.int i) H → tb σ H Q) : SQ X (.Subscript e b pos) (tOp (rIx X.K) ta tb) (wqIx i wr) := by
  refine ⟨pe_ix ix_seq h.1 hb hs, fun E F H σ a g Q f R hw k => h.2 E F H σ a g _ _ R hw fun v d rp hd => hi σ H _ ?_⟩
  split at hd
  · rename_i p
    cases rp
    obtain ⟨xs, hx, hd⟩ := onLs_iff.mp hd
    obtain ⟨d, hat, hf⟩ := onO_iff.mp hd
    obtain ⟨_, _, _, o, ho, tt⟩ := R.m p _ hx
    obtain ⟨vs, rfl, r⟩ := top_lst tt
    obtain ⟨u, hu, ru⟩ := r.atI hat
    exact .inl ⟨p, vs, i, u, rfl, rfl, .of ho, hu, k u d ru hf⟩
  · obtain ⟨d, hat, hf⟩ := onO_iff.mp hd
    cases rp with
    | tup hF r =>
      obtain ⟨u, hu, ru⟩ := r.atI hat
      exact .inr (.inl ⟨_, _, i, u, rfl, rfl, .of (R.r.ext _ _ hF), hu, k u d ru hf⟩)
  · obtain ⟨d, hat, hf⟩ := onO_iff.mp hd
    cases rp with
    | lst hF r =>
      obtain ⟨u, hu, ru⟩ := r.atI hat
      exact .inl ⟨_, _, i, u, rfl, rfl, .of (R.r.ext _ _ hF), hu, k u d ru hf⟩
  · exact hd.elim
/-- x[..][..].append(e) -/
def wmQApp (wr : WQ) (w : WE) : WM := fun g D a => wr g a fun d => match d with
  | .adr q => onLs (gAt g q) fun _ => w a (fun r a2 => fz r a2 fun d a3 => onLs (gAt g q) fun xs => xs.length < sizeLine ∧ D.nx ((q, .lst (xs ++ [d])) :: g) a3) D.ex
  | _ => False
theorem sm_qapp {o : Expr} {apos cpos : Pos} (ho : SQ X o t wr) (h : SE X W e ta w) (hbase : attributeBase o "append" X.env (eval o X.env) = eval o X.env := by rfl)
    (hfew : ((backTo cpos (starEach [e] X.env)).all (fun x => !x.1) && (backToKw cpos (keywordEach [] X.env)).all (fun x => x.1.isSome) && decide (([e] : List Expr).length + ([] : List Keyword).length + (if ([] : List Keyword).isEmpty then 0 else 1) < 30)) = true := by rfl)
    (hline : (apos.endLine == cpos.line) = true := by rfl) (hst : starEach [e] X.env = (false, eval e X.env) :: starEach [] X.env := by rfl) (hplain : (backTo cpos (starEach [] X.env)).any (·.1) = false := by rfl)
    (hs : swapsWith (.Call (.Attribute o "append" apos) [e] [] cpos) none pos.line X.env = pure false := by rfl) :
    SM X W (.Expr (.Call (.Attribute o "append" apos) [e] [] cpos) pos) (tDrop (tBM X.K "list" rAppend t (tCons ta tNil))) (wmQApp wr w) := by
  refine ⟨ps_expr (pe_bm PySem.F.plainAttrs_list PySem.F.slot_list_append PySem.F.type_list_append mt_append ho.1 (pa_cons h.1 pa_nil hst) hbase hfew hline hst hplain) hs, fun E F H σ a g D DA R hw l => ?_⟩
  refine ho.2 E F H σ a g _ _ R hw fun v d rp hd => ?_
  split at hd
  · cases rp
    exact app_core h R hd l
  · exact hd.elim
/-- x = [], remembered -/
def wmNewL (i : Nat) : WM := fun g D a => ∀ p, gAt g p = none → D.nx ((p, .lst []) :: g) (a.set i (some ⟨.no, .adr p⟩))
theorem sm_newL {i : Nat} {x : Str} {pos' p2 : Pos} (hN : X.N.Nodup) (hi : X.N[i]? = some x) (hx : Loc X.env.scope x) (hs : swapsWith (.List [] p2) (some (.Name x pos')) pos.line X.env = pure false := by rfl) (hf : X.fn x = true ∨ X.env.scope.names.lookup x = some .local := by first | exact .inl rfl | exact .inr rfl | assumption) :
    SM X W (.Assign [.Name x pos'] (.List [] p2) pos) (tAsg (tLst tNil) (gName i)) (wmNewL i) :=
  ⟨ps_set hN hi hx (pe_lst pa_nil) hs hf, fun E F H σ a g D DA R hw l => ⟨by simp, fun p hp => l.nx _ F _ _ _ (Same.refl F) ((R.layM hp (.lst .nil)).setDat (.adr p)) (hw p (gAt_free R hp))⟩⟩
theorem RelG.layF {K : PySem.W.Frag} {E : En} {F H : Hp} {σ : L2.St} {a : PSt} {g : Gm} (R : RelG K E F H σ a g) {p : Addr} (o : HO) (h : H p = none) : Same F (upd F p o) ∧ RelG K E (upd F p o) (upd H p o) σ a g := by
  obtain ⟨s, R2⟩ := R.r.layF o h
  refine ⟨s, R2, fun q d e => ?_⟩
  obtain ⟨f1, f2, f3, u, hu, t⟩ := R.m q d e
  have hne : q ≠ p := ne_of_none hu h
  exact ⟨by rw [upd_ne hne]; exact f1, f2, f3, u, by rw [upd_ne hne]; exact hu, t.mono s⟩
/-- x.append((a, [b])): the list is remembered -/
def wmAppTL (i : Nat) (wa wb : WE) : WM := fun g D a => onAdr a[i]? fun root => onLs (gAt g root) fun _ => wa a (fun r a1 => fz r a1 fun da a2 => wb a2 (fun r a3 => fz r a3 fun db a4 =>
  onLs (gAt g root) fun xs => xs.length < sizeLine ∧ ∀ q, gAt g q = none → q ≠ root → D.nx ((root, .lst (xs ++ [.tup [da, .adr q]])) :: (q, .lst [db]) :: g) a4) D.ex) D.ex
theorem sm_apptl {i : Nat} {o ea eb : Expr} {tea teb : TE} {wa wb : WE} {x1} {lp tp apos cpos : Pos} (ho : PE X o (tVar i)) (ha : SE X W ea tea wa) (hb : SE X W eb teb wb)
    (hl : starEach [eb] X.env = (false, eval eb X.env) :: starEach [] X.env := by rfl)
    (ht1 : starEach [ea, .List [eb] lp] X.env = (false, eval ea X.env) :: starEach [.List [eb] lp] X.env := by rfl) (ht2 : starEach [.List [eb] lp] X.env = (false, eval (.List [eb] lp) X.env) :: starEach [] X.env := by rfl)
    (hbase : attributeBase o "append" X.env (eval o X.env) = eval o X.env := by rfl)
    (hfew : ((backTo cpos (starEach [.Tuple [ea, .List [eb] lp] x1 tp] X.env)).all (fun x => !x.1) && (backToKw cpos (keywordEach [] X.env)).all (fun x => x.1.isSome) && decide (([Expr.Tuple [ea, .List [eb] lp] x1 tp] : List Expr).length + ([] : List Keyword).length + (if ([] : List Keyword).isEmpty then 0 else 1) < 30)) = true := by rfl)
    (hline : (apos.endLine == cpos.line) = true := by rfl) (hst : starEach [.Tuple [ea, .List [eb] lp] x1 tp] X.env = (false, eval (.Tuple [ea, .List [eb] lp] x1 tp) X.env) :: starEach [] X.env := by rfl) (hplain : (backTo cpos (starEach [] X.env)).any (·.1) = false := by rfl)
    (hs : swapsWith (.Call (.Attribute o "append" apos) [.Tuple [ea, .List [eb] lp] x1 tp] [] cpos) none pos.line X.env = pure false := by rfl) :
    SM X W (.Expr (.Call (.Attribute o "append" apos) [.Tuple [ea, .List [eb] lp] x1 tp] [] cpos) pos) (tDrop (tBM X.K "list" rAppend (tVar i) (tCons (tTup (tCons tea (tCons (tLst (tCons teb tNil)) tNil))) tNil))) (wmAppTL i wa wb) := by
  refine ⟨ps_expr (pe_bm PySem.F.plainAttrs_list PySem.F.slot_list_append PySem.F.type_list_append mt_append ho (pa_cons (pe_tup (pa_cons ha.1 (pa_cons (pe_lst (pa_cons hb.1 pa_nil hl)) pa_nil ht2) ht1)) pa_nil hst) hbase hfew hline hst hplain) hs, fun E F H σ a g D DA R hw l => ?_⟩
  obtain ⟨root, hr, hw⟩ := onAdr_iff.mp hw
  obtain ⟨xs, hx, hw⟩ := onLs_iff.mp hw
  obtain ⟨_, _, _, o0, ho0, t0⟩ := R.m root _ hx
  obtain ⟨vs, rfl, _⟩ := top_lst t0
  refine ⟨.ref root, slot_adr R.r hr, .inl ⟨rfl, vs, .of ho0⟩, ha.2 (E.mem H g) F H σ a _ _ _ R.to hw (fun va ra F1 H1 a1 e1 R1 rp1 hq1 => ?_) (lx_mem R (l.ex σ))⟩
  obtain ⟨F2, a2, da, s2, R2, rpa, hq2⟩ := fz_ok R1 rp1 hq1
  have R2 := R.of (e1.trans s2) R2
  refine hb.2 (E.mem H1 g) F2 H1 σ a2 _ _ _ R2.to hq2 (fun vb rb F3 H3 a3 e3 R3 rp3 hq3 => ?_) (lx_mem R2 ((l.ex σ).to (e1.trans s2)))
  obtain ⟨F4, a4, db, s4, R4, rpb, hq4⟩ := fz_ok R3 rp3 hq3
  have R4 := R2.of (e3.trans s4) R4
  obtain ⟨ys, hy, hz, hk⟩ := onLs_iff.mp hq4
  refine ⟨small (by simp), fun q hq => ⟨small (by simp), fun tt ht => ?_⟩⟩
  have hgq : gAt g q = none := gAt_free R4 hq
  have R5 := R4.layM hq (Top.lst (K := X.K) (F := F4) (.cons rpb .nil))
  obtain ⟨s5, R6⟩ := R5.layF (.tup [va, .ref q]) ht
  have hqr : q ≠ root := fun z => by rw [z, hy] at hgq; cases hgq
  have hy2 : gAt ((q, .lst [db]) :: g) root = some (.lst ys) := by rw [gAt_ne hqr]; exact hy
  obtain ⟨_, _, _, o6, ho6, t6⟩ := R6.m root _ hy2
  obtain ⟨us, rfl, r6⟩ := top_lst t6
  have sAll : Same F (upd F4 tt (.tup [va, .ref q])) := (((e1.trans s2).trans e3).trans s4).trans s5
  refine ⟨root, us, .ref tt, rfl, rfl, ho6, by rw [r6.length]; exact hz, l.nx _ _ _ _ _ sAll (R6.writeM hy2 (.lst (r6.append (.cons (.tup upd_same (.cons ((rpa.mono (e3.trans s4)).mono s5) (.cons (.adr q) .nil))) .nil)))) (hk q hgq hqr)⟩
end
/-! ### lists of such -/
structure LisG (mk : D → Addr → D) (g : Gm) (root : Addr) (es : List (D × Addr × List D)) : Prop where
  top : gAt g root = some (.lst (es.map fun e => mk e.1 e.2.1))
  kid : ∀ e, e ∈ es → gAt g e.2.1 = some (.lst e.2.2)
  nd : (es.map fun e => e.2.1).Nodup
  nr : ∀ e, e ∈ es → e.2.1 ≠ root
section
variable {mk : D → Addr → D} {g : Gm} {root : Addr} {es : List (D × Addr × List D)}
theorem lis_nil (h : gAt g root = some (.lst [])) : LisG mk g root [] := ⟨h, fun e he => absurd he (List.not_mem_nil), List.nodup_nil, fun e he => absurd he (List.not_mem_nil)⟩
theorem lis_new (h : LisG mk g root es) {q : Addr} {d : D} {l : List D} (hq : gAt g q = none) : LisG mk ((root, .lst ((es.map fun e => mk e.1 e.2.1) ++ [mk d q])) :: (q, .lst l) :: g) root (es ++ [(d, q, l)]) := by
  have hqr : root ≠ q := fun z => by rw [← z, h.top] at hq; cases hq
  have hqk : ∀ e, e ∈ es → e.2.1 ≠ q := fun e he z => by
    have := h.kid e he
    rw [z, hq] at this
    cases this
  refine ⟨by rw [gAt_same, List.map_append]; rfl, fun x hx => ?_, ?_, fun x hx => ?_⟩
  · rcases List.mem_append.mp hx with hx | hx
    · rw [gAt_ne (Ne.symm (h.nr x hx)), gAt_ne (Ne.symm (hqk x hx))]
      exact h.kid x hx
    · obtain rfl := List.mem_singleton.mp hx
      rw [gAt_ne hqr]
      exact gAt_same
  · rw [List.map_append, List.nodup_append]
    refine ⟨h.nd, by simp, fun a ha b hb => ?_⟩
    obtain ⟨x, hx, rfl⟩ := List.mem_map.mp ha
    obtain rfl : b = q := by simpa using hb
    exact hqk x hx
  · rcases List.mem_append.mp hx with hx | hx
    · exact h.nr x hx
    · obtain rfl := List.mem_singleton.mp hx
      exact Ne.symm hqr
theorem lis_app {d : D} {q : Addr} {l : List D} (h : LisG mk g root (es ++ [(d, q, l)])) (x : D) : LisG mk ((q, .lst (l ++ [x])) :: g) root (es ++ [(d, q, l ++ [x])]) := by
  have hm : ∀ {β : Type} (f : D → Addr → β), (es ++ [(d, q, l ++ [x])]).map (fun e => f e.1 e.2.1) = (es ++ [(d, q, l)]).map fun e => f e.1 e.2.1 := fun f => by rw [List.map_append, List.map_append]; rfl
  have hqr := h.nr (d, q, l) (by simp)
  refine ⟨?_, fun y hy => ?_, ?_, fun y hy => ?_⟩
  · rw [gAt_ne hqr, h.top]
    rw [show (es ++ [(d, q, l ++ [x])]).map (fun e => mk e.1 e.2.1) = (es ++ [(d, q, l)]).map fun e => mk e.1 e.2.1 from hm mk]
  · rcases List.mem_append.mp hy with hy | hy
    · have hn := h.nd
      rw [List.map_append, List.nodup_append] at hn
      have : y.2.1 ≠ q := hn.2.2 _ (List.mem_map.mpr ⟨y, hy, rfl⟩) q (by simp)
      rw [gAt_ne (Ne.symm this)]
      exact h.kid y (List.mem_append_left _ hy)
    · obtain rfl := List.mem_singleton.mp hy
      exact gAt_same
  · rw [show (es ++ [(d, q, l ++ [x])]).map (fun e => e.2.1) = (es ++ [(d, q, l)]).map fun e => e.2.1 from hm fun _ b => b]
    exact h.nd
  · rcases List.mem_append.mp hy with hy | hy
    · exact h.nr y (List.mem_append_left _ hy)
    · obtain rfl := List.mem_singleton.mp hy
      exact hqr
end
theorem repA_mem {κ : Type} {K : PySem.W.Frag} {F : Hp} {f : D × Addr × List D → V} {h : D × Addr × List D → D} : ∀ (es : List (D × Addr × List D)), RepA K F (es.map fun e => (e.1, f e)) (es.map fun e => (e.1, h e)) → ∀ e, e ∈ es → Rep K F (f e) (h e)
  | [], _, e, he => absurd he (List.not_mem_nil)
  | x :: es, r, e, he => by
    rw [List.map_cons, List.map_cons] at r
    cases r with
    | cons r1 t =>
      rcases List.mem_cons.mp he with rfl | he
      · exact r1
      · exact repA_mem (κ := κ) es t e he
theorem lis_freeze {mk : D → Addr → D} {mkF : D → List D → D} {K : PySem.W.Frag} {E : En} {F H : Hp} {σ : L2.St} {a : PSt} {g : Gm} {root : Addr} {es : List (D × Addr × List D)} (R : RelG K E F H σ a g) (h : LisG mk g root es)
    (hmk : ∀ (F : Hp) v d q xs, Rep K F v (mk d q) → Rep K F (.ref q) (.lst xs) → Rep K F v (mkF d xs)) : ∃ F2, Same F F2 ∧ Rel K E F2 H σ a ∧ Rep K F2 (.ref root) (.lst (es.map fun e => mkF e.1 e.2.2)) := by
  obtain ⟨F1, g1, s1, R1, r1, hg⟩ := freezeKids es F g R h.kid h.nd
  have hr : gAt g1 root = some (D.lst (es.map fun e => mk e.1 e.2.1)) := by rw [hg root h.nr]; exact h.top
  obtain ⟨f1, f2, f3, o, ho, t⟩ := R1.m root _ hr
  obtain ⟨vs, rfl, r⟩ := top_lst t
  obtain ⟨s2, R2⟩ := R1.r.freeze ho f1 f2 f3
  have hk := repA_mem (κ := D) (f := fun e => V.ref e.2.1) (h := fun e => D.lst e.2.2) es r1
  have go : ∀ (l : List (D × Addr × List D)) (us : List V), (∀ e, e ∈ l → e ∈ es) → Reps K F1 us (l.map fun e => mk e.1 e.2.1) → Reps K F1 us (l.map fun e => mkF e.1 e.2.2) := by
    intro l
    induction l with
    | nil => intro us _ q; cases q; exact .nil
    | cons x l ih =>
      intro us hl q
      rw [List.map_cons] at q
      cases q with
      | cons q1 qt => exact .cons (hmk F1 _ _ _ _ q1 (hk x (hl x (List.mem_cons_self ..)))) (ih _ (fun e he => hl e (List.mem_cons_of_mem _ he)) qt)
  exact ⟨_, s1.trans s2, R2, .lst upd_same ((go es vs (fun _ h => h) r).mono s2)⟩
def mkT (d : D) (q : Addr) : D := .tup [d, .adr q]
def mkTF (d : D) (xs : List D) : D := .tup [d, .lst xs]
def mkL (_ : D) (q : Addr) : D := .adr q
def mkLF (_ : D) (xs : List D) : D := .lst xs
theorem mkT_ok {K : PySem.W.Frag} (F : Hp) (v : V) (d : D) (q : Addr) (xs : List D) (h1 : Rep K F v (mkT d q)) (h2 : Rep K F (.ref q) (.lst xs)) : Rep K F v (mkTF d xs) := by
  unfold mkT at h1
  cases h1 with
  | tup hf r =>
    cases r with
    | cons r1 r2 =>
      cases r2 with
      | cons r3 r4 =>
        cases r4
        cases r3
        exact .tup hf (.cons r1 (.cons h2 .nil))
theorem mkL_ok {K : PySem.W.Frag} (F : Hp) (v : V) (d : D) (q : Addr) (xs : List D) (h1 : Rep K F v (mkL d q)) (h2 : Rep K F (.ref q) (.lst xs)) : Rep K F v (mkLF d xs) := by
  unfold mkL at h1
  cases h1
  exact h2
theorem rel_same {K : PySem.W.Frag} {E : En} {F H : Hp} {σ : L2.St} {a : PSt} (R : Rel K E F H σ a) {i : Nat} {v : V} {d : D} (hv : σ[i]? = some (some v)) (r : Rep K F v d) : Rel K E F H σ (a.set i (some ⟨.no, d⟩)) := by
  have h := R.setDat (i := i) r
  have : σ.set i (some v) = σ := by
    refine List.ext_getElem? fun j => ?_
    by_cases e : i = j
    · subst e
      have hi := (List.getElem?_eq_some_iff.mp hv).1
      rw [List.getElem?_set_self hi, hv]
    · rw [List.getElem?_set_ne e]
  rw [this] at h
  exact h
section
variable {X : Cx} {W : L2.St → XK} {st : List Stmt} {t : TS} {w : WM}
/-- from here on the list in slot i is data -/
def wmFzT (i : Nat) (w : WM) : WM := fun g DA a => onAdr a[i]? fun root => ∃ es : List (D × Addr × List D), LisG mkT g root es ∧ w [] DA (a.set i (some ⟨.no, .lst (es.map fun e => mkTF e.1 e.2.2)⟩))
def wmFzL (i : Nat) (w : WM) : WM := fun g DA a => onAdr a[i]? fun root => ∃ es : List (D × Addr × List D), LisG mkL g root es ∧ w [] DA (a.set i (some ⟨.no, .lst (es.map fun e => mkLF e.1 e.2.2)⟩))
theorem sms_fzT (i : Nat) (h : SMs X W st t w) : SMs X W st t (wmFzT i w) := by
  refine ⟨h.1, fun E F H σ a g D DA R hw l => ?_⟩
  obtain ⟨root, hr, es, hL, hk⟩ := onAdr_iff.mp hw
  obtain ⟨F2, s, R2, rp⟩ := lis_freeze R hL (mkF := mkTF) fun F v d q xs => mkT_ok F v d q xs
  exact h.2 E F2 H σ _ [] D DA ⟨rel_same R2 (slot_adr R.r hr) rp, mem_nil⟩ hk (l.to s)
theorem sms_fzL (i : Nat) (h : SMs X W st t w) : SMs X W st t (wmFzL i w) := by
  refine ⟨h.1, fun E F H σ a g D DA R hw l => ?_⟩
  obtain ⟨root, hr, es, hL, hk⟩ := onAdr_iff.mp hw
  obtain ⟨F2, s, R2, rp⟩ := lis_freeze R hL (mkF := mkLF) fun F v d q xs => mkL_ok F v d q xs
  exact h.2 E F2 H σ _ [] D DA ⟨rel_same R2 (slot_adr R.r hr) rp, mem_nil⟩ hk (l.to s)
end
end DS

namespace DS
open PySem PySem.Spec PyProof.Rows L2

section
variable {X : Cx} {W : L2.St → XK} {e b : Expr} {pos : Pos} {ta tb t : TE} {w : WE} {wr : WQ}
/-- x = [[]], both remembered -/
def wmNewLL (i : Nat) : WM := fun g D a => ∀ q p, gAt g q = none → gAt g p = none → p ≠ q → D.nx ((p, .lst [.adr q]) :: (q, .lst []) :: g) (a.set i (some ⟨.no, .adr p⟩))
theorem sm_newLL {i : Nat} {x : Str} {pos' p2 p3 : Pos} (hN : X.N.Nodup) (hi : X.N[i]? = some x) (hx : Loc X.env.scope x) (h1 : starEach [.List [] p3] X.env = (false, eval (.List [] p3) X.env) :: starEach [] X.env := by rfl) (hs : swapsWith (.List [.List [] p3] p2) (some (.Name x pos')) pos.line X.env = pure false := by rfl) (hf : X.fn x = true ∨ X.env.scope.names.lookup x = some .local := by first | exact .inl rfl | exact .inr rfl | assumption) :
    SM X W (.Assign [.Name x pos'] (.List [.List [] p3] p2) pos) (tAsg (tLst (tCons (tLst tNil) tNil)) (gName i)) (wmNewLL i) := by
  refine ⟨ps_set hN hi hx (pe_lst (pa_cons (pe_lst pa_nil) pa_nil h1)) hs hf, fun E F H σ a g D DA R hw l => ⟨by simp, fun q hq => ⟨small (by simp), fun p hp => ?_⟩⟩⟩
  have R1 := R.layM hq (Top.lst (K := X.K) (F := F) (vs := []) (ds := []) .nil)
  have R2 := R1.layM hp (Top.lst (K := X.K) (F := F) (.cons (.adr q) .nil))
  have hgp := gAt_free R1 hp
  have hpq : p ≠ q := fun z => by
    rw [z, gAt_same] at hgp
    cases hgp
  rw [gAt_ne (Ne.symm hpq)] at hgp
  exact l.nx _ F _ _ _ (Same.refl F) (R2.setDat (.adr p)) (hw q p (gAt_free R hq) hgp hpq)
/-- x.append([]): the list is remembered -/
def wmAppNL (i : Nat) : WM := fun g D a => onAdr a[i]? fun root => onLs (gAt g root) fun xs => xs.length < sizeLine ∧ ∀ q, gAt g q = none → D.nx ((root, .lst (xs ++ [.adr q])) :: (q, .lst []) :: g) a
theorem sm_appnl {i : Nat} {o : Expr} {lp apos cpos : Pos} (ho : PE X o (tVar i)) (hbase : attributeBase o "append" X.env (eval o X.env) = eval o X.env := by rfl)
    (hfew : ((backTo cpos (starEach [.List [] lp] X.env)).all (fun x => !x.1) && (backToKw cpos (keywordEach [] X.env)).all (fun x => x.1.isSome) && decide (([Expr.List [] lp] : List Expr).length + ([] : List Keyword).length + (if ([] : List Keyword).isEmpty then 0 else 1) < 30)) = true := by rfl)
    (hline : (apos.endLine == cpos.line) = true := by rfl) (hst : starEach [.List [] lp] X.env = (false, eval (.List [] lp) X.env) :: starEach [] X.env := by rfl) (hplain : (backTo cpos (starEach [] X.env)).any (·.1) = false := by rfl)
    (hs : swapsWith (.Call (.Attribute o "append" apos) [.List [] lp] [] cpos) none pos.line X.env = pure false := by rfl) :
    SM X W (.Expr (.Call (.Attribute o "append" apos) [.List [] lp] [] cpos) pos) (tDrop (tBM X.K "list" rAppend (tVar i) (tCons (tLst tNil) tNil))) (wmAppNL i) := by
  refine ⟨ps_expr (pe_bm PySem.F.plainAttrs_list PySem.F.slot_list_append PySem.F.type_list_append mt_append ho (pa_cons (pe_lst pa_nil) pa_nil hst) hbase hfew hline hst hplain) hs, fun E F H σ a g D DA R hw l => ?_⟩
  obtain ⟨root, hr, hw⟩ := onAdr_iff.mp hw
  obtain ⟨xs, hx, hz, hw⟩ := onLs_iff.mp hw
  obtain ⟨_, _, _, o0, ho0, t0⟩ := R.m root _ hx
  obtain ⟨vs, rfl, _⟩ := top_lst t0
  refine ⟨.ref root, slot_adr R.r hr, .inl ⟨rfl, vs, .of ho0⟩, by simp, fun q hq => ?_⟩
  have R1 := R.layM hq (Top.lst (K := X.K) (F := F) (vs := []) (ds := []) .nil)
  have hgq := gAt_free R hq
  have hy : gAt ((q, .lst []) :: g) root = some (.lst xs) := by
    rw [gAt_ne (fun z => by rw [z, hx] at hgq; cases hgq)]
    exact hx
  obtain ⟨_, _, _, o1, ho1, t1⟩ := R1.m root _ hy
  obtain ⟨us, rfl, r1⟩ := top_lst t1
  exact ⟨root, us, .ref q, rfl, rfl, ho1, by rw [r1.length]; exact hz, l.nx _ F _ _ _ (Same.refl F) (R1.writeM hy (.lst (r1.append (.cons (.adr q) .nil)))) (hw q hgq)⟩
/-- a, b, c = x[..][..] -/
def wmQAsg (wr : WQ) (wg : WG) : WM := fun g D a => wr g a fun d => wg d a fun a' => D.nx g a'
theorem sm_qasg {tg : Expr} {gg : TG} {wg : WG} {sl : List Nat} (h : SQ X e t wr) (hg : SG X tg gg wg sl) (hs : swapsWithSole [tg] e pos.line X.env = pure false := by rfl) (hw : swappedStores [tg] e X.env = pure none := by rfl)
    (h1 : (assignEach [tg] X.env).map (·.2) = [assign tg X.env] := by rfl) : SM X W (.Assign [tg] e pos) (tAsg t gg) (wmQAsg wr wg) := by
  refine ⟨ps_asg h.1 hg.1 hs hw h1, fun E F H σ a g D DA R hw l => h.2 E F H σ a g _ _ R hw fun v d rp hd => ?_⟩
  exact hg.2 (E.mem H g) F H σ a v d _ _ R.to rp hd fun σ' a3 _ R3 hq => l.nx _ F H a3 g (Same.refl F) (R.of (Same.refl F) R3) hq
/-- x[..][c] = e -/
def wmQSetIx (wr : WQ) (i : Int) (w : WE) : WM := fun g D a => w a (fun r a1 => fz r a1 fun d a2 => wr g a2 fun o => match o with
  | .adr q => onLs (gAt g q) fun xs => onO (ixN xs.length i) fun n => D.nx ((q, .lst (xs.set n d)) :: g) a2
  | _ => False) D.ex
theorem sm_qsetix {i : Int} {o : Expr} {p2 : Pos} (ho : SQ X o t wr) (hb : PE X b tb) (hi : ∀ σ H Q, Q (.int i) H → tb σ H Q) (h : SE X W e ta w) (hs : swapsWithSole [.Subscript o b p2] e pos.line X.env = pure false := by rfl) (hw : swappedStores [.Subscript o b p2] e X.env = pure none := by rfl)
    (h1 : (assignEach [.Subscript o b p2] X.env).map (·.2) = [assign (.Subscript o b p2) X.env] := by rfl)
    (hsub : ∀ v, assign (.Subscript o b p2) X.env v = (do let ov ← holding [v] (eval o X.env); let iv ← holding [v, ov] (eval b X.env); standAt p2; holding [v, ov, iv] (setItem ov iv v); release [v, ov, iv] []) := by intro _; rfl) :
    SM X W (.Assign [.Subscript o b p2] e pos) (tAsg ta (gSub t tb rSetL)) (wmQSetIx wr i w) := by
  refine ⟨ps_asg h.1 (pg_sub ho.1 hb set_list hsub) hs hw h1, fun E F H σ a g D DA R hw l => h.2 (E.mem H g) F H σ a _ _ _ R.to hw (fun v r F' H' a' e1 R' rp q => ?_) (lx_mem R (l.ex σ))⟩
  obtain ⟨F2, a2, d, s, R2, rp2, hq⟩ := fz_ok R' rp q
  have R2 := R.of (e1.trans s) R2
  refine ho.2 E F2 H' σ a2 g _ _ R2 hq fun vo od ro hd => hi σ H' _ ?_
  split at hd
  · rename_i q
    cases ro
    obtain ⟨xs, hx, hd⟩ := onLs_iff.mp hd
    obtain ⟨n, hn, hk⟩ := onO_iff.mp hd
    obtain ⟨_, _, _, o1, ho1, t1⟩ := R2.m q _ hx
    obtain ⟨us, rfl, r1⟩ := top_lst t1
    exact ⟨q, us, i, n, rfl, rfl, ho1, by rw [r1.length]; exact hn, l.nx _ F2 _ _ _ (e1.trans s) (R2.writeM hx (.lst (Reps.set rp2 n r1))) hk⟩
  · exact hd.elim
end
end DS

namespace DS
open PySem PySem.Spec PyProof.Rows L2
/-! ### dict comprehensions, keys of either kind -/
section
variable {X : Cx} {pins : List (Addr × Obj)} {σ : L2.St} {H : Hp} {s : Shared}
theorem d_dset {H' : Hp} {D : Addr} {y v : V} {u r : Value} {Er : Value → Shared → Prop} {Q : Unit → Shared → Prop} (hu : X.A.units < cLine) (I : Inv X pins σ H s) (g : DPut H D y v H')
    (ry : RelV y u) (rv : RelV v r) (h : ∀ s', Inv X pins σ H' s' → Q () s') : wpAny (model X.prog X.w) X.A (dictSet D u r) Q Er s := by
  rcases g with ⟨ks, k, e, ey, l, rfl⟩ | ⟨ks, k, b, e, ey, eb, l, rfl⟩
  · subst ey
    exact d_dictSet I e l ry rv h
  · subst ey
    cases (show u = Value.ref b from ry)
    obtain ⟨z, hd, xs, rel, dd⟩ := L2.dt_of I.hok e
    have hm : (putK ks k v).length ≤ sizeLine := by
      have := length_putK ks k v
      omega
    have hz : xs.length ≤ sizeLine := by
      rw [← Paired.length rel]
      exact z
    refine wpAny_dictSet_heap (hsz := hz) hu (key_of I.hok eb) dd ?_
    intro h' d2 hs
    obtain ⟨q, es, ep, q1, q2, q3, q4, _, q5⟩ := d2
    refine h _ (d_write I (by rw [e]; exact True.intro) hs ⟨q, q1⟩ ?_)
    refine ⟨hm, hd, _, (rel.put k eb rv).keeps ?_, q, es, ep, q1, q2, q3, q4, q5⟩
    intro c ys ec
    have hc : c ≠ D := fun w => by
      rw [w, e] at ec
      cases ec
    rw [upd_ne hc]
    exact ec
end
/-- the new dict's object -/
inductive DEmp : HO → D → Prop
  | k : DEmp (.dK []) (.dK [])
  | t : DEmp (.dT []) (.dT [])
def tDG (o0 : HO) (wi : TI) (g : TG) (tt : TT) (tk tv : TE) (vs : List Nat) : TE := fun σ H Q => wi σ H fun J H1 => ∀ D, H1 D = none →
  ∃ W : Nat → Nat → Hp → Prop, (∃ m, W 0 m (upd H1 D o0)) ∧
  ∀ i m H, W i m H → (J.stop i H ∧ Q (.ref D) H) ∨
    (J.go i H ∧ ∃ Nx : Hp → Prop, (∀ H', Nx H' → ∃ m', m' < m ∧ W (i + 1) m' H') ∧
      ∀ x H', J.yld i H x H' → g x (L2.wipe σ vs) H' fun σ2 H2 => L2.wipe σ2 vs = L2.wipe σ vs ∧ tt σ2 H2 fun b H3 =>
        if b = true then tk σ2 H3 fun y H4 => tv σ2 H4 fun z H5 => ∃ H6, DPut H5 D y z H6 ∧ Nx H6 else Nx H3)
abbrev InBlk (X : Cx) (sc : Scope) (f : Cx → Prop) : Prop := ∀ (s : Shared) (H : Hp) (C : Addr) (cl : List (Str × Addr)) (fp : List Addr), f (X.blk s H sc (compEnvC sc cl C X.env) fp)
section
variable {X : Cx}
theorem dg_core {o0 : HO} {d0 : D} (h0 : DEmp o0 d0) {pins : List (Addr × Obj)} {s : Shared} {σ : L2.St} {H : Hp} {Q : VK} {kx vx tg iter : Expr} {ifs : List Expr} {sc : Scope} {own : List (Str × Nat)} {pos pos' : Pos} {wi : TI} {g : TG} {tt : TT} {tk tv : TE}
    {use : Option (Value → Sem Unit)} {Qf : Value → Shared → Prop} (hu : X.A.units < cLine) (hc : X.calm = true) (hN : X.N.Nodup) (I : Inv X pins σ H s) (hi : PI X tg iter wi) (ok : BlkOk X.N X.env.scope sc own)
    (hg : InBlk X sc fun Y => PG Y tg g) (ht : InBlk X sc fun Y => PTs Y ifs tt) (hk : InBlk X sc fun Y => PE Y kx tk) (he : InBlk X sc fun Y => PE Y vx tv)
    (hs : ∀ x, foldedSetIterable iter X.env x = pure x) (h : tDG o0 wi g tt tk tv (own.map (·.2)) σ H Q)
    (fin : ∀ D C s' m H', Inv X pins σ H' s' → Q (.ref D) H' → s'.heap.Ns C m → FpOk X pins H' C → compPost (model X.prog X.w) X.A X.xe use Qf (.ref D) C (.ok .next) s') :
    wpAny (model X.prog X.w) X.A (comprehension (.DictComp kx vx [⟨tg, iter, ifs, 0⟩] sc pos) sc X.env pos' newDict false (eval iter X.env) use) Qf X.xe s := by
  have cap : ∀ y ∈ sc.names, y.2 = .free → ∃ c, X.env.cells.lookup y.1 = some c := by
    intro y hy e
    exact I.ok.has _ ((ok.free y hy e).elim .inl .inr)
  refine wpAny_comprehension_free (use := use) rfl hs (closure_ok cap) ok.kind (fun y hy e => by rw [ok.uniq y hy, e]) (thn (hi.run pins s σ H _ I h) ?_)
  intro xv s1 hx
  refine thn hx ?_
  rintro itv s2 ⟨it, fp, tn, J, H2, rfl, I2, T, st2, f2, q⟩
  refine wpAny_newObj_type (newEnv_comp ?_)
  generalize hD : s2.heap.objs.size = Dd
  have new : H2 Dd = none := I2.hok.fresh (Nat.le_of_eq hD)
  obtain ⟨W, ⟨m0, w0⟩, turn⟩ := q Dd new
  generalize e3 : ({ s2 with heap := s2.heap.push { cls := .type "dict", data := .dict #[] } } : Shared) = s3
  have up3 : ∀ {b o}, s2.heap.get? b = some o → s3.heap.get? b = some o := fun e => by
    rw [← e3]
    exact Heap.get?_push_of_some _ e
  have n3 : s3.heap.objs.size = s2.heap.objs.size + 1 := by
    rw [← e3]
    exact Heap.size_push ..
  have I3 : Inv X pins σ (upd H2 Dd o0) s3 := by
    rw [← e3]
    refine I2.laid (t' := s2.toks) (fun b o e => Heap.get?_push_of_some _ e) (Nat.le_of_eq hD) ?_
    rw [← hD]
    cases h0 with
    | k => exact dk_empty s2.heap I2.big
    | t => exact dt_empty s2.heap I2.big
  have small : ∀ b ∈ fp, b < s2.heap.objs.size := by
    intro b hb
    obtain ⟨o, e, _⟩ := T.obj _ _ st2 b hb
    exact Heap.lt_size e
  have f3 : ∀ b ∈ fp, FpOk X pins (upd H2 Dd o0) b ∧ b < s3.heap.objs.size := by
    intro b hb
    have lt := small b hb
    have ne : b ≠ Dd := by
      rw [← hD]
      exact Nat.ne_of_lt lt
    refine ⟨⟨?_, (f2 b hb).2⟩, by rw [n3]; exact Nat.lt_succ_of_lt lt⟩
    rw [upd_ne ne]
    exact (f2 b hb).1
  have st3 : tn 0 s3.heap := T.keep _ _ _ st2 fun b _ o e => up3 e
  have I4 := block_start I3 ok hN f3
  have pg := hg s3 (upd H2 Dd o0) s3.heap.objs.size (cellsFrom (s3.heap.objs.size + 1) sc.names (cloFrom X.env.cells sc.names [])) fp
  have pt := ht s3 (upd H2 Dd o0) s3.heap.objs.size (cellsFrom (s3.heap.objs.size + 1) sc.names (cloFrom X.env.cells sc.names [])) fp
  have pk := hk s3 (upd H2 Dd o0) s3.heap.objs.size (cellsFrom (s3.heap.objs.size + 1) sc.names (cloFrom X.env.cells sc.names [])) fp
  have pe := he s3 (upd H2 Dd o0) s3.heap.objs.size (cellsFrom (s3.heap.objs.size + 1) sc.names (cloFrom X.env.cells sc.names [])) fp
  have h3 : s3.heap = s2.heap.push { cls := .type "dict", data := .dict #[] } := by rw [← e3]
  have goal : codeAny (model X.prog X.w) X.A (.compStart (.DictComp kx vx [⟨tg, iter, ifs, 0⟩] sc pos) 0 (.ref it) (.ref Dd)
      (compEnvC sc (cellsFrom (s3.heap.objs.size + 1) sc.names (cloFrom X.env.cells sc.names [])) s3.heap.objs.size X.env))
      (compPost (model X.prog X.w) X.A X.xe use Qf (.ref Dd) s3.heap.objs.size) { s3 with heap := pushCells (s3.heap.push { cls := .type "dict", data := .dict #[] }) sc.names } := by
    have none3 : ∀ b ∈ fp, (upd H2 Dd o0) b = none := fun b hb => (f3 b hb).1.1
    generalize eC : compEnvC sc (cellsFrom (s3.heap.objs.size + 1) sc.names (cloFrom X.env.cells sc.names [])) s3.heap.objs.size X.env = ce at I4 pg pt pk pe ⊢
    have cL : ce.locals = s3.heap.objs.size := by
      rw [← eC]
      rfl
    generalize eH : upd H2 Dd o0 = H3 at I3 I4 pg pt pk pe w0 none3 f3
    generalize e4 : ({ s3 with heap := pushCells (s3.heap.push { cls := .type "dict", data := .dict #[] }) sc.names } : Shared) = s4 at I4 ⊢
    have st4 : tn 0 s4.heap := T.keep _ _ _ st3 fun b _ o e => by
      rw [← e4]
      exact pushCells_keeps _ _ _ _ (Heap.get?_push_of_some _ e)
    have foot : ∀ {σ' : L2.St} {H' : Hp} {s' : Shared}, Inv (X.blk s3 H3 sc ce fp) [] σ' H' s' → (∀ b ∈ fp, H' b = none) → ∀ b ∈ fp, FpOk (X.blk s3 H3 sc ce fp) [] H' b := by
      intro σ' H' s' J n b hb
      have x1 := J.ok.exf b hb
      exact ⟨n b hb, x1.1, J.ok.exfs b hb, .inl hb, fun x c e => x1.2 x c e, fun p hp => by cases hp⟩
    have loop : codeAny (model X.prog X.w) X.A (.compLoop (.DictComp kx vx [⟨tg, iter, ifs, 0⟩] sc pos) 0 (.ref it) (.ref Dd) ce) (compPost (model X.prog X.w) X.A X.xe use Qf (.ref Dd) s3.heap.objs.size) s4 := by
      refine compLoop_anyD (fun n t => ∃ i K, Inv (X.blk s3 H3 sc ce fp) [] (L2.wipe σ (own.map (·.2))) K t ∧ tn i t.heap ∧ (∀ b ∈ fp, K b = none) ∧ W i n K) ?_ m0 ⟨0, H3, I4, st4, none3, w0⟩
      rintro n s5 ⟨i, H5, I5, st5, n5, w5⟩
      rcases turn i n H5 w5 with ⟨stop, last⟩ | ⟨go, Nx, hNx, step⟩
      · refine thnF (T.done (X.blk s3 H3 sc ce fp) rfl rfl rfl hc i [] s5 _ H5 (fun _ _ => False) I5 (foot I5 n5) st5 stop) ?_
        rintro r s6 ⟨rfl, I6⟩
        have I7 : Inv X pins σ H5 s6 := by
          refine I3.call' (ch := fp) I6.os I6.base I6.hok I6.bare fun b hb => ?_
          have z := (f3 b hb).1
          exact ⟨z.2.2.2.1, z.2.1, z.2.2.2.2.1, z.2.2.2.2.2⟩
        have nC : H5 s3.heap.objs.size = none := by
          rw [← cL]
          exact I6.free
        obtain ⟨m, hn, _⟩ := I6.loc
        refine fin Dd s3.heap.objs.size s6 m H5 I7 last ?_ (I3.fpOk (Nat.le_refl _) nC)
        rw [← cL]
        exact hn
      · refine thnF (T.item (X.blk s3 H3 sc ce fp) rfl rfl rfl hc i [] s5 _ H5 (fun _ _ => False) I5 (foot I5 n5) st5 go) ?_
        rintro r s6 ⟨u, rfl, h6⟩
        refine thnF h6 ?_
        rintro _ s7 ⟨x, H7, I7, r7, y7, st7, n7⟩
        refine thnF (pg.run _ s7 _ H7 x u _ (I7.pinned (foot I7 n7) (T.obj _ _ st7)) r7 (step x H7 y7)) ?_
        rintro _ s8 ⟨σ8, H8, I8, w8, q8⟩
        refine thnF (pt.run _ s8 σ8 H8 _ I8 q8) ?_
        rintro b s9 ⟨H9, I9, q9⟩
        have over : ∀ {s' : Shared} {H' : Hp}, Inv (X.blk s3 H3 sc ce fp) ([] ++ pinsAt fp s7.heap) σ8 H' s' → Nx H' →
            ∃ m, m < n ∧ ∃ i H', Inv (X.blk s3 H3 sc ce fp) [] (L2.wipe σ (own.map (·.2))) H' s' ∧ tn i s'.heap ∧ (∀ b ∈ fp, H' b = none) ∧ W i m H' := by
          intro s' H' J nx
          obtain ⟨m', lt, w'⟩ := hNx H' nx
          have stay : ∀ b ∈ fp, ∀ o, s7.heap.get? b = some o → s'.heap.get? b = some o ∧ H' b = none := by
            intro b hb o e
            have z := J.pin (b, o) (List.mem_append_right _ (List.mem_append_right _ (mem_pinsAt hb e)))
            exact ⟨z.1, z.2.1⟩
          have len : (L2.wipe σ (own.map (·.2))).length = σ8.length := by rw [← w8, L2.wipe_length]
          refine ⟨m', lt, i + 1, H', (J.unpinned (pins := [])).weak len ?_, T.keep _ _ _ st7 fun b hb o e => (stay b hb o e).1, ?_, w'⟩
          · intro j v e
            rw [← w8] at e
            exact (L2.wipe_some e).1
          · intro b hb
            obtain ⟨o, e, _⟩ := T.obj _ _ st7 b hb
            exact (stay b hb o e).2
        cases b with
        | false => exact over I9 q9
        | true =>
          refine thnF (pk.run _ s9 σ8 H9 _ I9 q9) ?_
          rintro z s10 ⟨yk, H10, I10, r10, q10⟩
          refine thnF (pe.run _ s10 σ8 H10 _ I10 q10) ?_
          rintro z2 s11 ⟨yv, H11, I11, r11, H12, put, nx⟩
          exact d_dset (X := X.blk s3 H3 sc ce fp) hu I11 put r10 r11 fun s12 I12 => over I12 nx
    exact codeAny_compStart_dict loop (T.self X.A 0 _ _ _ st4 loop)
  rw [h3] at goal
  rw [← hD, ← e3]
  rw [← hD, ← e3] at goal
  exact goal
theorem pe_dg {o0 : HO} {d0 : D} (h0 : DEmp o0 d0) {kx vx tg iter : Expr} {ifs : List Expr} {sc : Scope} {own : List (Str × Nat)} {pos : Pos} {wi : TI} {g : TG} {tt : TT} {tk tv : TE} (hu : X.A.units < cLine) (hc : X.calm = true) (hN : X.N.Nodup)
    (hi : PI X tg iter wi) (ok : BlkOk X.N X.env.scope sc own) (hg : InBlk X sc fun Y => PG Y tg g) (ht : InBlk X sc fun Y => PTs Y ifs tt) (hk : InBlk X sc fun Y => PE Y kx tk) (he : InBlk X sc fun Y => PE Y vx tv)
    (hs : ∀ x, foldedSetIterable iter X.env x = pure x) : PE X (.DictComp kx vx [⟨tg, iter, ifs, 0⟩] sc pos) (tDG o0 wi g tt tk tv (own.map (·.2))) := by
  constructor
  intro pins s σ H Q I h
  rw [arm_eval_DictComp]
  refine dg_core h0 hu hc hN I hi ok hg ht hk he hs h ?_
  rintro D C s' m H' J q hn ⟨z0, z1, z2, z3, z4, z5⟩
  refine ⟨m, hn, fun h'' sb => ⟨.ref D, H', ?_, rfl, q⟩⟩
  exact J.turned (t' := s'.toks) (fun b o hb e => (sb.2 b hb).trans e) z0 z1 z3 z4 z5
theorem ps_setDg {o0 : HO} {d0 : D} (h0 : DEmp o0 d0) {i : Nat} {y : Str} {py : Pos} {kx vx tg iter : Expr} {ifs : List Expr} {sc : Scope} {own : List (Str × Nat)} {pos spos : Pos} {wi : TI} {g : TG} {tt : TT} {tk tv : TE} (hu : X.A.units < cLine) (hc : X.calm = true) (hN : X.N.Nodup)
    (hy : X.N[i]? = some y) (hyl : X.env.scope.names.lookup y = some .local) (hsw : swapsWith (.DictComp kx vx [⟨tg, iter, ifs, 0⟩] sc pos) (some (.Name y py)) spos.line X.env = pure true)
    (hi : PI X tg iter wi) (ok : BlkOk X.N X.env.scope sc own) (hg : InBlk X sc fun Y => PG Y tg g) (ht : InBlk X sc fun Y => PTs Y ifs tt) (hk : InBlk X sc fun Y => PE Y kx tk) (he : InBlk X sc fun Y => PE Y vx tv)
    (hs : ∀ x, foldedSetIterable iter X.env x = pure x) : PS X (.Assign [.Name y py] (.DictComp kx vx [⟨tg, iter, ifs, 0⟩] sc pos) spos) (tAsg (tDG o0 wi g tt tk tv (own.map (·.2))) (gName i)) := by
  constructor
  intro pins s σ H Dn I h
  rw [exec_Assign_Name_used _ _ _ _ hsw]
  refine wpAny_bind (wpAny_standAt (wpAny_bind ?_))
  show wpAny _ X.A (do let _ ← comprehension (.DictComp kx vx [⟨tg, iter, ifs, 0⟩] sc pos) sc X.env (firstIterPos [⟨tg, iter, ifs, 0⟩] pos) newDict false (eval iter X.env) (some (assign (.Name y py) X.env))) _ _ s
  have h : tDG o0 wi g tt tk tv (own.map (·.2)) σ H (fun x H1 => gName i x σ H1 Dn.nx) := h
  refine wpAny_bind (thn (dg_core (Qf := fun _ s' => SP X pins Dn .next s') h0 hu hc hN I hi ok hg ht hk he hs h ?_) fun _ s' hq => wpAny_pure (wpAny_pure hq))
  rintro L C s' m H' J q hn ⟨z0, z1, z2, z3, z4, z5⟩
  show wpAny _ _ (assign (.Name y py) X.env (.ref L)) _ _ _
  refine wpAny_assign_Name (store_ok2 (v := V.ref L) J hN hy (.inl hyl) rfl ?_ (.inr hyl))
  rintro s2 I2 ⟨a, sb, ha⟩
  have hCa : C ≠ a := by
    rcases ha with z | z
    · exact z ▸ z1
    · exact fun e => z4 y a z e.symm
  refine ⟨m, hn.sameBut sb hCa, fun h3 sb3 => ⟨_, H', ?_, q⟩⟩
  exact I2.turned (t' := s2.toks) (fun b o hb e => (sb3.2 b hb).trans e) z0 z1 z3 z4 z5
end
/-! the word -/
section
variable {K : PySem.W.Frag} {E : En} {F H : Hp} {σ : L2.St} {a : PSt}
/-- the object on the side is changed -/
theorem Rel.sideSet {Dd : Addr} {o o' : HO} (R : Rel K (E.side Dd o) F H σ a) (hE : E.H Dd = none) (hL : ¬ E.L Dd) (hF0 : E.F Dd = none) (ho : ∀ xs, o ≠ .tup xs) : Rel K (E.side Dd o') F (upd H Dd o') σ a := by
  obtain ⟨R9, g1, g2, g3⟩ := R.ofSide hE hL hF0 ho
  have far : ∀ {j : Nat} {av : AV} {p : Addr}, a[j]? = some (some av) → av.o ≠ .no → σ[j]? = some (some (.ref p)) → p ≠ Dd := by
    intro j av p h1 h2 h3 z
    exact g2 ⟨j, av, h1, h2, z ▸ h3⟩
  have R10 : Rel K E F (upd H Dd o') σ a := by
    refine ⟨fun b u e => ?_, R9.f0, R9.new, fun b u e l' => ?_, fun b e => ?_, R9.lt, R9.len, fun j av e => ?_, R9.dis⟩
    · rw [upd_ne (ne_of_none e g1)]
      exact R9.ext _ _ e
    · rw [upd_ne (ne_of_none e hE)]
      exact R9.keep _ _ e l'
    · by_cases hb : b = Dd
      · exact hb ▸ hE
      · rw [upd_ne hb] at e
        exact R9.dom _ e
    · obtain ⟨u, e1, q⟩ := R9.sl j av e
      refine ⟨u, e1, ?_⟩
      obtain ⟨ow, cc⟩ := av
      cases ow with
      | no => exact q
      | own =>
        obtain ⟨p, rfl, h1, h2, t, h3, h4⟩ := q
        refine ⟨p, rfl, h1, h2, t, ?_, h4⟩
        rw [upd_ne (far e (by simp) e1)]
        exact h3
      | lent =>
        obtain ⟨p, rfl, h1, h2, h5, t, h3, h4⟩ := q
        refine ⟨p, rfl, h1, h2, h5, t, ?_, h4⟩
        rw [upd_ne (far e (by simp) e1)]
        exact h3
  exact R10.toSide g1 hE g2 upd_same
end
theorem top_nt {K : PySem.W.Frag} {F : Hp} {o : HO} {d : D} (h : Top K F o d) : ∀ xs, o ≠ .tup xs := by
  intro xs e
  subst e
  cases h
/-- {k: e for x in xs if t}: Inv by the turn, the dict so far, the state -/
@[irreducible] def dcS (d0 : D) (items : List D) (vs : List Nat) (wg : WG) (wt : WT) (wk we : WE) (a1 : PSt) (q : Res → PSt → Prop) : Prop := ∃ Inv : Nat → D → PSt → Prop, Inv 0 d0 a1 ∧
  (∀ i acc a2 d, items[i]? = some d → Inv i acc a2 → wg d (wipeA a2 vs) fun a3 => wt a3 (fun b a4 => br b
    (wk a4 (fun rk a5 => fz rk a5 fun y a6 => we a6 (fun r a7 => fz r a7 fun z a8 => putS acc y z fun acc' => Inv (i + 1) acc' (wipeA a8 vs)) (fun _ _ => False)) (fun _ _ => False)) (Inv (i + 1) acc (wipeA a4 vs))) (fun _ _ => False)) ∧
  ∀ acc a2, Inv items.length acc a2 → q (.new acc) (keepNo a1 vs a2)
theorem dc_i {d0 : D} {items : List D} {vs : List Nat} {wg : WG} {wt : WT} {wk we : WE} {a1 : PSt} {q : Res → PSt → Prop} (Inv : Nat → D → PSt → Prop) (h0 : Inv 0 d0 a1)
    (hs : ∀ i acc a2 d, items[i]? = some d → Inv i acc a2 → wg d (wipeA a2 vs) fun a3 => wt a3 (fun b a4 => br b
    (wk a4 (fun rk a5 => fz rk a5 fun y a6 => we a6 (fun r a7 => fz r a7 fun z a8 => putS acc y z fun acc' => Inv (i + 1) acc' (wipeA a8 vs)) (fun _ _ => False)) (fun _ _ => False)) (Inv (i + 1) acc (wipeA a4 vs))) (fun _ _ => False))
    (he : ∀ acc a2, Inv items.length acc a2 → q (.new acc) (keepNo a1 vs a2)) : dcS d0 items vs wg wt wk we a1 q := by
  unfold dcS
  exact ⟨Inv, h0, hs, he⟩
def wDc (d0 : D) (wi : WI) (vs : List Nat) (wg : WG) (wt : WT) (wk we : WE) : WE := fun a q qe => wi a (fun items a1 => dcS d0 items vs wg wt wk we a1 q) qe
/-- what keepNo owns was owned -/
theorem keepNo_own {a1 a2 : PSt} : ∀ (ws : List Nat) (j : Nat) (av : AV), (keepNo a1 ws a2)[j]? = some (some av) → av.o ≠ .no → a2[j]? = some (some av) := by
  intro ws
  induction ws with
  | nil => exact fun j av h _ => h
  | cons v ws ih =>
    intro j av h ho
    unfold keepNo at h
    by_cases hv : v = j
    · subst hv
      have hl := (List.getElem?_eq_some_iff.mp h).1
      rw [List.length_set] at hl
      rw [List.getElem?_set_self hl] at h
      split at h
      · cases h; exact absurd rfl ho
      · cases h
    · rw [List.getElem?_set_ne hv] at h
      exact ih j av h ho
theorem dput_of {K : PySem.W.Frag} {F H : Hp} {Dd : Addr} {o : HO} {acc y z : D} {vy vz : V} {k : D → Prop} (e : Same F H) (hD : H Dd = some o) (t : Top K F o acc) (ry : Rep K F vy y) (rz : Rep K F vz z) (h : putS acc y z k) :
    ∃ o' acc', DPut H Dd vy vz (upd H Dd o') ∧ Top K F o' acc' ∧ k acc' := by
  unfold putS at h
  split at h
  · obtain ⟨key, hk, hz, hn⟩ := onO_iff.mp h
    cases t with
    | dK r =>
      obtain rfl := key_rep ry hk
      exact ⟨_, _, DPut.k hD (by rw [r.len]; exact hz), .dK (r.put rz), hn⟩
  · obtain ⟨key, hk, hz, hn⟩ := onO_iff.mp h
    cases t with
    | dT r =>
      obtain ⟨q, rfl, hb⟩ := tup_rd e (.inl ry) hk
      exact ⟨_, _, DPut.t hD hb (by rw [r.len]; exact hz), .dT (r.put rz), hn⟩
  · exact h.elim
theorem dc_ok {K : PySem.W.Frag} {W : L2.St → XK} {o0 : HO} {d0 : D} (hd0 : DEmp o0 d0) {ti : TI} {wi : WI} {g : TG} {wg : WG} {tt : TT} {wt : WT} {tk te : TE} {wk we : WE} {vs sl : List Nat}
    (hi : ∀ E F H σ a R q qe, Rel K E F H σ a → wi a q qe → Li K E F σ q R → Lx K E F σ qe (W σ) → ti σ H R)
    (hg : ∀ E F H σ a v d Q q, Rel K E F H σ a → Rep K F v d → wg d a q → (∀ σ' a', Only sl σ σ' → Rel K E F H σ' a' → q a' → Q σ' H) → g v σ H Q) (hsl : ∀ j ∈ sl, j ∈ vs)
    (ht : ∀ E F H σ a Q q qe, Rel K E F H σ a → wt a q qe → Lt K E F σ q Q → Lx K E F σ qe (W0 σ) → tt σ H Q)
    (hk : ∀ E F H σ a Q q qe, Rel K E F H σ a → wk a q qe → Ln K E F σ q Q → Lx K E F σ qe (W0 σ) → tk σ H Q)
    (he : ∀ E F H σ a Q q qe, Rel K E F H σ a → we a q qe → Ln K E F σ q Q → Lx K E F σ qe (W0 σ) → te σ H Q) :
    ∀ E F H σ a Q q qe, Rel K E F H σ a → wDc d0 wi vs wg wt wk we a q qe → Ln K E F σ q Q → Lx K E F σ qe (W σ) → tDG o0 ti g tt tk te vs σ H Q := by
  intro E F H σ a Q q qe R hw l lx
  refine hi E F H σ a _ _ _ R hw (fun J items F1 H1 a1 e1 R1 it hq => ?_) lx
  unfold dcS at hq
  obtain ⟨Inv, h0, hst, hend⟩ := hq
  intro Dd hD
  obtain ⟨f1, f2, f3⟩ := R1.fresh hD
  have hL : ¬ E.L Dd := fun z => R1.lt Dd z f2
  have hF0 : E.F Dd = none := R1.f0.free f1
  have t0 : Top K F1 o0 d0 := by
    cases hd0 with
    | k => exact .dK .nil
    | t => exact .dT .nil
  refine ⟨fun i m H' => m = items.length - i ∧ i ≤ items.length ∧ ∃ F2 a2 o acc, Same F1 F2 ∧ Rel K (E.side Dd o) F2 H' σ a2 ∧ Top K F2 o acc ∧ Inv i acc a2,
    ⟨_, rfl, Nat.zero_le _, F1, a1, o0, d0, Same.refl F1, (R1.lay o0 hD).toSide f1 f2 f3 upd_same, t0, h0⟩, ?_⟩
  rintro i m H' ⟨rfl, hi', F2, a2, o, acc, s2, R2, top, hinv⟩
  by_cases hlt : i < items.length
  · refine .inr ⟨it.go i _ σ a2 F2 H' s2 R2 hlt, fun H3 => ∃ F3 a3 o acc, Same F1 F3 ∧ Rel K (E.side Dd o) F3 H3 σ a3 ∧ Top K F3 o acc ∧ Inv (i + 1) acc a3,
      fun H3 ⟨F3, a3, o, ac, s3, R3, r3, h3⟩ => ⟨items.length - (i + 1), by omega, rfl, hlt, F3, a3, o, ac, s3, R3, r3, h3⟩, fun x H3 y => ?_⟩
    obtain ⟨F3, d, s3, R3, hd, rp⟩ := it.yld i _ σ a2 F2 H' x H3 s2 R2 hlt y
    refine hg _ F3 H3 (L2.wipe σ vs) (wipeA a2 vs) x d _ _ (R3.wipe vs) rp (hst i acc a2 d hd hinv) fun σ4 a4 o4 R4 hq4 => ⟨wipe_only o4 hsl, ?_⟩
    have back : ∀ {F5 H5 : Hp} {a5 : PSt} {EE : En}, Rel K EE F5 H5 σ4 a5 → Rel K EE F5 H5 σ (wipeA a5 vs) := fun {F5 H5 a5 EE} R5 => by
      refine R5.less (by rw [wipeA_length, R5.len, o4.1, L2.wipe_length]) fun j av e => ?_
      obtain ⟨h1, h2⟩ := wipeA_some e
      refine ⟨h1, ?_⟩
      rw [o4.2 j fun z => h2 (hsl j z), L2.wipe_out h2]
    refine ht _ F3 H3 σ4 a4 _ _ _ R4 hq4 (fun b F5 H5 a5 e5 R5 q5 => ?_) (fun x a c dx F5 H5 _ _ _ z => z)
    cases b with
    | false =>
      rw [if_neg Bool.false_ne_true]
      exact ⟨F5, _, o, acc, (s2.trans s3).trans e5, back R5, (top.mono s3).mono e5, br_ff q5 rfl⟩
    | true =>
      rw [if_pos rfl]
      refine hk _ F5 H5 σ4 a5 _ _ _ R5 (br_tt q5 rfl) (fun vy rk F6 H6 a6 e6 R6 rp6 q6 => ?_) (fun x a c dx F5 H5 _ _ _ z => z)
      obtain ⟨F7, a7, yd, s7, R7, rp7, q7⟩ := fz_ok R6 rp6 q6
      refine he _ F7 H6 σ4 a7 _ _ _ R7 q7 (fun vz r F8 H8 a8 e8 R8 rp8 q8 => ?_) (fun x a c dx F5 H5 _ _ _ z => z)
      obtain ⟨F9, a9, zd, s9, R9, rp9, q9⟩ := fz_ok R8 rp8 q8
      have R10 := back R9
      have sAll : Same F3 F9 := (((e5.trans e6).trans s7).trans e8).trans s9
      obtain ⟨_, _, _, g3⟩ := R10.ofSide f2 hL hF0 (top_nt top)
      obtain ⟨o', acc', put, t', hinv'⟩ := dput_of R10.ext g3 ((top.mono s3).mono sAll) (rp7.mono (e8.trans s9)) rp9 q9
      exact ⟨_, put, F9, _, o', acc', (s2.trans s3).trans sAll, R10.sideSet f2 hL hF0 (top_nt top), t', hinv'⟩
  · have e : i = items.length := by omega
    subst e
    obtain ⟨R3, g1, g2, g3⟩ := R2.ofSide f2 hL hF0 (top_nt top)
    refine .inl ⟨it.stop _ σ a2 F2 H' s2 R2, ?_⟩
    have R4 := Rel.keepNo R1 s2 R3 vs
    refine l (.ref Dd) (.new acc) F2 H' _ (e1.trans s2) R4 ⟨Dd, rfl, g1, f2, ⟨_, g3, top⟩, ?_⟩ (hend acc a2 hinv)
    rintro ⟨j, av, h1, h2, h3⟩
    exact g2 ⟨j, av, keepNo_own vs j av h1 h2, h2, h3⟩
section
variable {X : Cx} {W : L2.St → XK} {o0 : HO} {d0 : D}
theorem se_dc (h0 : DEmp o0 d0) {kx vx tg iter : Expr} {ifs : List Expr} {sc : Scope} {own : List (Str × Nat)} {pos : Pos} {ti : TI} {wi : WI} {wg : WG} {wt : WT} {wk we : WE} {sl : List Nat} (hu : X.A.units < cLine) (hc : X.calm = true) (hN : X.N.Nodup) (hi : SI X W tg iter ti wi) (ok : BlkOk X.N X.env.scope sc own)
    (hg : InBlk X sc fun Y => ∃ g, SG Y tg g wg sl) (hsl : ∀ j ∈ sl, j ∈ own.map (·.2)) (ht : InBlk X sc fun Y => ∃ t, STs Y W0 ifs t wt) (hk : InBlk X sc fun Y => ∃ t, SE Y W0 kx t wk) (he : InBlk X sc fun Y => ∃ t, SE Y W0 vx t we)
    (hs : ∀ x, foldedSetIterable iter X.env x = pure x := by intro _; rfl) :
    SE X W (.DictComp kx vx [⟨tg, iter, ifs, 0⟩] sc pos) (tDG o0 ti (gG X.K wg sl) (tT X.K W0 wt) (tE X.K W0 wk) (tE X.K W0 we) (own.map (·.2))) (wDc d0 wi (own.map (·.2)) wg wt wk we) :=
  ⟨pe_dg h0 hu hc hN hi.1 ok (fun s H C cl fp => (hg s H C cl fp).elim fun _ h => h.own) (fun s H C cl fp => (ht s H C cl fp).elim fun _ h => h.own) (fun s H C cl fp => (hk s H C cl fp).elim fun _ h => h.own) (fun s H C cl fp => (he s H C cl fp).elim fun _ h => h.own) hs,
    dc_ok h0 hi.2 (fun E F H σ a v d Q q R rp hw l => ⟨E, F, a, d, q, R, rp, hw, l⟩) hsl (fun E F H σ a Q q qe R hw l lx => ⟨E, F, a, q, qe, R, hw, l, lx⟩) (fun E F H σ a Q q qe R hw l lx => ⟨E, F, a, q, qe, R, hw, l, lx⟩) (fun E F H σ a Q q qe R hw l lx => ⟨E, F, a, q, qe, R, hw, l, lx⟩)⟩
theorem ss_setDc (h0 : DEmp o0 d0) {i : Nat} {y : Str} {py : Pos} {kx vx tg iter : Expr} {ifs : List Expr} {sc : Scope} {own : List (Str × Nat)} {pos spos : Pos} {ti : TI} {wi : WI} {wg : WG} {wt : WT} {wk we : WE} {sl : List Nat} (hu : X.A.units < cLine) (hc : X.calm = true) (hN : X.N.Nodup)
    (hy : X.N[i]? = some y) (hyl : X.env.scope.names.lookup y = some .local) (hsw : swapsWith (.DictComp kx vx [⟨tg, iter, ifs, 0⟩] sc pos) (some (.Name y py)) spos.line X.env = pure true) (hi : SI X W tg iter ti wi) (ok : BlkOk X.N X.env.scope sc own)
    (hg : InBlk X sc fun Y => ∃ g, SG Y tg g wg sl) (hsl : ∀ j ∈ sl, j ∈ own.map (·.2)) (ht : InBlk X sc fun Y => ∃ t, STs Y W0 ifs t wt) (hk : InBlk X sc fun Y => ∃ t, SE Y W0 kx t wk) (he : InBlk X sc fun Y => ∃ t, SE Y W0 vx t we)
    (hs : ∀ x, foldedSetIterable iter X.env x = pure x := by intro _; rfl) :
    SS X W (.Assign [.Name y py] (.DictComp kx vx [⟨tg, iter, ifs, 0⟩] sc pos) spos) (tAsg (tDG o0 ti (gG X.K wg sl) (tT X.K W0 wt) (tE X.K W0 wk) (tE X.K W0 we) (own.map (·.2))) (gName i)) (wSet i (wDc d0 wi (own.map (·.2)) wg wt wk we)) := by
  refine ⟨ps_setDg h0 hu hc hN hy hyl hsw hi.1 ok (fun s H C cl fp => (hg s H C cl fp).elim fun _ h => h.own) (fun s H C cl fp => (ht s H C cl fp).elim fun _ h => h.own) (fun s H C cl fp => (hk s H C cl fp).elim fun _ h => h.own) (fun s H C cl fp => (he s H C cl fp).elim fun _ h => h.own) hs, fun E F H σ a D DA R hw l => ?_⟩
  refine dc_ok (W := W) h0 hi.2 (fun E F H σ a v d Q q R rp hw l => ⟨E, F, a, d, q, R, rp, hw, l⟩) hsl (fun E F H σ a Q q qe R hw l lx => ⟨E, F, a, q, qe, R, hw, l, lx⟩) (fun E F H σ a Q q qe R hw l lx => ⟨E, F, a, q, qe, R, hw, l, lx⟩) (fun E F H σ a Q q qe R hw l lx => ⟨E, F, a, q, qe, R, hw, l, lx⟩) E F H σ a _ _ _ R hw (fun v r F' H' a' e R' rp q => ?_) (l.ex σ)
  obtain ⟨F2, a2, s, R2, hk⟩ := sto_ok R' rp q
  exact l.nx _ F2 H' a2 (e.trans s) R2 hk
/-- from here on what slot i owns is data -/
def wFzS (i : Nat) (w : WS) : WS := fun D a => fz (.slot i) a fun _ a' => w D a'
theorem sss_fz (i : Nat) {st : List Stmt} {t : TS} {w : WS} (h : SSs X W st t w) : SSs X W st t (wFzS i w) := by
  refine ⟨h.1, fun E F H σ a D DA R hw l => ?_⟩
  have hw : fz (.slot i) a fun _ a' => w DA a' := hw
  simp only [fz] at hw
  split at hw
  · exact h.2 E F H σ _ D DA R hw l
  · rename_i c e
    obtain ⟨F2, s, R2, _⟩ := R.giveUp e
    exact h.2 E F2 H σ _ D DA R2 hw (l.to s)
  · exact hw.elim
theorem sw_trueD {kx vx : Expr} {gs : List Comprehension} {sc : Scope} {pos py : Pos} {y : Str} {l : Nat} {env : Env} (hk : env.scope.kind = .function) (hy : env.scope.names.lookup y = some .local) (hl : (py.line == pos.line) = true)
    (ha : (sc.names.any fun (n, k) => n == y && (k == .local || k == .cell)) = false) : swapsWith (.DictComp kx vx gs sc pos) (some (.Name y py)) l env = pure true := by
  have k1 : env.kindOf y = some .local := hy
  have k2 : env.blockKind = .function := by
    unfold Env.blockKind
    rw [hk]
    rfl
  unfold swapsWith
  simp only [k1, k2, ha, Expr.pos, hl]
  rfl
end
end DS

namespace DS
open PySem PySem.Spec PyProof.Rows L2
/-! ### list(d.keys()) -/
def tListKeys (te : TE) : TE := fun σ H Q => te σ H fun x H1 => ∃ d, x = .ref d ∧
  ((∃ kvs : List (L2.Key × V), H1 d = some (.dK kvs) ∧ ∀ p, H1 p = none → Q (.ref p) (upd H1 p (.lst (kvs.map fun e => kV e.1)))) ∨
   (∃ kvs : List (List L2.Key × V), H1 d = some (.dT kvs) ∧ ∀ p (ts : List Addr), H1 p = none → Paired (fun (t : Addr) (e : List L2.Key × V) => H1 t = some (.tup (e.1.map kV))) ts kvs → Q (.ref p) (upd H1 p (.lst (ts.map V.ref)))))
theorem vals_from {xs : List V} {us : List Value} (hl : xs.length = us.length) (h : ∀ (j : Nat) (x : V) (u : Value), xs[j]? = some x → us[j]? = some u → RelV x u) : Vals xs us := by
  induction xs generalizing us with
  | nil =>
    cases us with
    | nil => exact .nil
    | cons u us => cases hl
  | cons x xs ih =>
    cases us with
    | nil => cases hl
    | cons u us =>
      refine .cons (h 0 x u rfl rfl) (ih (by simpa using hl) fun j y w e1 e2 => h (j + 1) y w ?_ ?_)
      · simpa using e1
      · simpa using e2
section
variable {X : Cx} {e : Expr} {te : TE} {p apos cpos pos : Pos}
theorem lk_fin {pins : List (Addr × Obj)} {σ : L2.St} {H : Hp} {s : Shared} {d : Addr} {es : Array DictEntry} {ep : Nat} {xs : List V} {Q : Value → Shared → Prop} (hc : X.calm = true) (I : Inv X pins σ H s) (raw : s.heap.DictRaw d es ep) (hz : es.size ≤ sizeLine) (hn : xs.length = es.size)
    (hx : ∀ (j : Nat) (hj : j < es.size) (x : V), xs[j]? = some x → RelV x es[j].key) (r : Addr) (hv : s.heap.get? r = some { cls := .type "dict_keys", data := .fields #[.ref d] })
    (q : ∀ s', Inv X pins σ (upd H s.heap.objs.size (.lst xs)) s' → Q (.ref s.heap.objs.size) s') : wpAny (model X.prog X.w) X.A (call (.type "list") [.ref r]) Q X.xe s := by
  refine PySem.W.kdl_call (PySem.KdlSrc.rawKeys (prog := X.prog) (w := X.w) (r := r) (d := d) (es := es) (ep := ep)) (I.ok.hd hc) ⟨⟨_, hv, rfl, rfl⟩, raw⟩ hz ?_
  intro h' tk acc c hk hS hacc
  refine q _ (I.laid (t' := tk) hk (Nat.le_refl _) ?_)
  have hl : acc.toList.length = xs.length := by
    rw [Array.length_toList, hacc.1, hn]
  refine ⟨by rw [hn]; exact hz, acc.toList, c, ?_, ?_⟩
  · refine vals_from hl.symm ?_
    intro j x u e1 e2
    rw [Array.getElem?_toList] at e2
    obtain ⟨hj, rfl⟩ := hacc.2 j u e2
    exact hx j hj x e1
  · rw [Array.toArray_toList]
    exact hS
theorem pe_listKeys (hc : X.calm = true) (he : PE X e te) (hg : Gl X "list") (hm : X.mg "list" = none) (hv : bootBuiltins "list" = some (.type "list")) (hbase : attributeBase e "keys" X.env (eval e X.env) = eval e X.env := by rfl) (hline : (apos.endLine == cpos.line) = true := by rfl)
    (hs : starEach [.Call (.Attribute e "keys" apos) [] [] cpos] X.env = (false, eval (.Call (.Attribute e "keys" apos) [] [] cpos) X.env) :: starEach [] X.env := by rfl) :
    PE X (.Call (.Name "list" p) [.Call (.Attribute e "keys" apos) [] [] cpos] [] pos) (tListKeys te) := by
  constructor
  intro pins s σ H Q I hq
  refine wpAny_Call_Name_kw (ld_blt I hg hm hv (PyProof.Rows.callWith_type1 ?_ hs rfl))
  rw [hs]
  show wpAny _ _ (spliced ((false, eval (.Call (.Attribute e "keys" apos) [] [] cpos) X.env) :: backTo pos (starEach [] X.env))) _ _ s
  refine Calls.spliced_cons (wpAny_Call_method (T := "dict") (id := "dict.keys") hbase rfl hline F.plainAttrs_dict F.slot_dict_keys F.type_dict_keys (thn (he.run pins s σ H _ I hq) ?_))
  rintro u s1 ⟨x, H1, I1, rx, d, rfl, q⟩
  obtain rfl : u = Value.ref d := rx
  have go : ∀ {es : Array DictEntry} {ep : Nat} {xs : List V}, (d == sysModules) = false → s1.heap.DictRaw d es ep → es.size ≤ sizeLine → xs.length = es.size → (∀ (j : Nat) (hj : j < es.size) (x : V), xs[j]? = some x → RelV x es[j].key) →
      (∀ p, H1 p = none → Q (.ref p) (upd H1 p (.lst xs))) → s1.TypeIs (.ref d) "dict" ∧ (∀ b, Value.ref d = .ref b → ∃ ob, s1.heap.get? b = some ob ∧ ob.dict = none) ∧
      wpAny (model X.prog X.w) X.A (callWith cpos (.builtin "dict.keys") [.ref d] [] []) (fun v s' => wpAny (model X.prog X.w) X.A (spliced (backTo pos (starEach [] X.env))) (fun vs s'' => wpAny (model X.prog X.w) X.A (call (.type "list") (v :: vs)) (fun w s3 => ∃ x H', Inv X pins σ H' s3 ∧ RelV x w ∧ Q x H') X.xe s'') X.xe s') X.xe s1 := by
    intro es ep xs h0 raw hz hn hx q
    refine ⟨raw.typeIs, ?_, ?_⟩
    · obtain ⟨o, ho, hc, hd⟩ := raw
      intro b hb
      cases hb
      exact ⟨o, ho, hc.2.1⟩
    · have I2 : Inv X pins σ H1 { s1 with heap := s1.heap.push { cls := .type "dict_keys", data := .fields #[.ref d] } } := I1.kept (t' := s1.toks) fun b ob q => Heap.get?_push_of_some _ q
      refine method_meetsIn F.slot_dict_keys F.entry_dict_keys rfl (PySem.evalArgs_none ⟨rfl, raw.typeIs, F.args_dict_keys_1 _, _, PySem.meets_dict_keys_raw d h0, ⟨es, ep, raw⟩, ?_⟩)
      refine Calls.spliced_nil (lk_fin hc I2 (raw.at fun o e => Heap.get?_push_of_some _ e) hz hn hx s1.heap.objs.size (Heap.get?_push_size _ rfl) ?_)
      intro s' J
      exact ⟨.ref _, _, J, rfl, q _ (I2.hok.fresh (Nat.le_refl _))⟩
  rcases q with ⟨kvs, hd, q⟩ | ⟨kvs, hd, q⟩
  · obtain ⟨z, h0, vs, kv, dd⟩ := L2.dk_of I1.hok hd
    obtain ⟨es, ep, raw, hsz, hent⟩ := dd.raw
    have hl : kvs.length = vs.length := Paired.length kv
    exact go (xs := kvs.map fun e => kV e.1) h0 raw (by omega) (by rw [List.length_map]; omega) (by
      intro j hj x hx
      rw [List.getElem?_map, Option.map_eq_some_iff] at hx
      obtain ⟨⟨k, v⟩, hk, rfl⟩ := hx
      obtain ⟨⟨k2, w⟩, hw, hk2, _⟩ := LiI.paired_get kv hk
      have hk2 : k = k2 := hk2
      subst hk2
      exact relV_key (hent j hj k w hw).1) q
  · obtain ⟨z, h0, xs, kt, dd⟩ := L2.dt_of I1.hok hd
    obtain ⟨es, ep, raw, hsz, hent⟩ := dd.raw
    have hl : kvs.length = xs.length := Paired.length kt
    refine go (xs := (xs.map fun e => e.2.1).map V.ref) h0 raw (by omega) (by rw [List.length_map, List.length_map]; omega) ?_ ?_
    · intro j hj x hx
      rw [List.map_map, List.getElem?_map, Option.map_eq_some_iff] at hx
      obtain ⟨y, hy, rfl⟩ := hx
      obtain ⟨y2, hy2, hk, _⟩ := hent j hj
      rw [hy] at hy2
      cases hy2
      rw [hk]
      rfl
    · intro p hp
      refine q p _ hp ?_
      have key : ∀ {l : List (List L2.Key × V)} {m : List (List L2.Key × Addr × Value)}, KT H1 l m → Paired (fun (t : Addr) (e : List L2.Key × V) => H1 t = some (.tup (e.1.map kV))) (m.map fun e => e.2.1) l := by
        intro l m q
        induction q with
        | nil => exact .nil
        | @cons p q ps qs hq t ih => exact .cons hq.2.1 ih
      exact key kt
/-- the keys of a dict, in a new list -/
def keysOf : D → Option (List D)
  | .dK kvs => some (kvs.map fun e => kD e.1)
  | .dT kvs => some (kvs.map fun e => kTD e.1)
  | _ => none
def wLKeys (w : WE) : WE := fun a q qe => w a (fun r a1 => onO (con a1 r) fun d => onO (keysOf d) fun ks => q (.new (.lst ks)) a1) qe
theorem reps_kDs {K : PySem.W.Frag} {F : Hp} : ∀ {vs : List (L2.Key × V)} {ds : List (L2.Key × D)}, RepA K F vs ds → Reps K F (vs.map fun e => kV e.1) (ds.map fun e => kD e.1)
  | _, _, .nil => .nil
  | _, _, .cons _ t => .cons (rep_kD _) (reps_kDs t)
theorem take_tups {K : PySem.W.Frag} {E : En} {H : Hp} {σ : L2.St} {a : PSt} : ∀ {ts : List Addr} {vs : List (List L2.Key × V)}, Paired (fun (t : Addr) (e : List L2.Key × V) => H t = some (.tup (e.1.map kV))) ts vs → ∀ {F F0 : Hp} {ds : List (List L2.Key × D)}, Rel K E F H σ a → RepA K F0 vs ds →
    ∃ F', Same F F' ∧ Rel K E F' H σ a ∧ Reps K F' (ts.map V.ref) (ds.map fun e => kTD e.1) := by
  intro ts vs h
  induction h with
  | nil =>
    intro F F0 ds R r
    cases r
    exact ⟨F, Same.refl F, R, .nil⟩
  | @cons t e ts vs h1 h2 ih =>
    intro F F0 ds R r
    cases r with
    | cons rd rt =>
      obtain ⟨F1, s1, R1, f1⟩ := R.takeTup h1
      obtain ⟨F2, s2, R2, rs⟩ := ih R1 rt
      exact ⟨F2, s1.trans s2, R2, .cons (.tup (s2 _ _ f1) (reps_kD _)) rs⟩
theorem se_listKeys {W : L2.St → XK} {w : WE} (hc : X.calm = true) (h : SE X W e te w) (hg : Gl X "list") (hm : X.mg "list" = none) (hv : bootBuiltins "list" = some (.type "list")) (hbase : attributeBase e "keys" X.env (eval e X.env) = eval e X.env := by rfl) (hline : (apos.endLine == cpos.line) = true := by rfl)
    (hs : starEach [.Call (.Attribute e "keys" apos) [] [] cpos] X.env = (false, eval (.Call (.Attribute e "keys" apos) [] [] cpos) X.env) :: starEach [] X.env := by rfl) :
    SE X W (.Call (.Name "list" p) [.Call (.Attribute e "keys" apos) [] [] cpos] [] pos) (tListKeys te) (wLKeys w) := by
  refine ⟨pe_listKeys hc h.1 hg hm hv hbase hline hs, fun E F H σ a Q q qe R hw l lx => h.2 E F H σ a _ _ qe R hw (fun v r F1 H1 a1 e1 R1 rp hq => ?_) lx⟩
  obtain ⟨d, hd, hq⟩ := onO_iff.mp hq
  obtain ⟨ks, hk, hq⟩ := onO_iff.mp hq
  have rd := rd_of R1 rp hd
  unfold keysOf at hk
  split at hk
  · cases hk
    obtain ⟨a0, vs, rfl, ha, r⟩ := dk_of R1.ext rd
    refine ⟨a0, rfl, .inl ⟨vs, ha, fun p hp => ?_⟩⟩
    obtain ⟨f1, f2, f3⟩ := R1.fresh hp
    exact l (.ref p) (.new _) F1 _ a1 e1 (R1.lay _ hp) ⟨p, rfl, f1, f2, ⟨_, upd_same, .lst (reps_kDs r)⟩, f3⟩ hq
  · cases hk
    obtain ⟨a0, vs, rfl, ha, r⟩ := dt_of R1.ext rd
    refine ⟨a0, rfl, .inr ⟨vs, ha, fun p ts hp hts => ?_⟩⟩
    obtain ⟨F2, s2, R2, rs⟩ := take_tups hts R1 r
    obtain ⟨f1, f2, f3⟩ := R2.fresh hp
    exact l (.ref p) (.new _) F2 _ a1 (e1.trans s2) (R2.lay _ hp) ⟨p, rfl, f1, f2, ⟨_, upd_same, .lst rs⟩, f3⟩ hq
  · cases hk
end
/-! ### sorted(..) of ints, of pairs of ints -/
def iiD (p : Int × Int) : D := .tup [.int p.1, .int p.2]
def prOf : D → Option (Int × Int)
  | .tup [.int i, .int j] => some (i, j)
  | _ => none
def prsOf : List D → Option (List (Int × Int))
  | [] => some []
  | d :: ds => match prOf d, prsOf ds with
    | some p, some ps => some (p :: ps)
    | _, _ => none
theorem prsOf_map : ∀ ps : List (Int × Int), prsOf (ps.map iiD) = some ps
  | [] => rfl
  | p :: ps => by
    rw [List.map_cons, prsOf, prsOf_map ps]
    rfl
theorem prsOf_some : ∀ {ds : List D} {ps : List (Int × Int)}, prsOf ds = some ps → ds = ps.map iiD
  | [], ps, h => by cases h; rfl
  | d :: ds, ps, h => by
    unfold prsOf at h
    split at h
    · rename_i p qs h1 h2
      cases h
      rw [List.map_cons, ← prsOf_some h2]
      unfold prOf at h1
      split at h1
      · cases h1; rfl
      · cases h1
    · cases h
def dSortI : DCall := fun ds k => match ds with
  | [d] => onO (listOf d) fun xs => onO (intsOf xs) fun ns => ∀ ns' : List Int, ns'.Perm ns → ns'.Pairwise (· ≤ ·) → k (.new (.lst (ns'.map D.int)))
  | _ => False
def dSortP : DCall := fun ds k => match ds with
  | [d] => onO (listOf d) fun xs => onO (prsOf xs) fun ps => ∀ qs : List (Int × Int), qs.Perm ps → qs.Pairwise (fun x y => ¬ (y.1 < x.1 ∨ (y.1 = x.1 ∧ y.2 < x.2))) → k (.new (.lst (qs.map iiD)))
  | _ => False
section
variable {K : PySem.W.Frag} {F H : Hp}
theorem lst_rd {v : V} {d : D} {xs : List D} (e : Same F H) (h : RdD K F H v d) (hd : listOf d = some xs) : ∃ p vs, v = .ref p ∧ SqL K H p vs ∧ Reps K F vs xs := by
  cases d with
  | lst ys => cases hd; obtain ⟨p, vs, h1, h2, h3⟩ := h.lst e; exact ⟨p, vs, h1, .of h2, h3⟩
  | rol ys => cases hd; obtain ⟨p, vs, h1, h2, h3⟩ := h.rol e; exact ⟨p, vs, h1, h2, h3⟩
  | _ => cases hd
theorem dSortI_ok : CallS K (rSortedI K) dSortI := by
  intro E F H σ a vs ds Q k R h ho l
  unfold dSortI at ho
  split at ho
  · obtain ⟨xs, h1, ho⟩ := onO_iff.mp ho
    obtain ⟨ns, h2, ho⟩ := onO_iff.mp ho
    cases h with
    | cons h t =>
      cases t
      obtain ⟨p, vs, rfl, hp, r⟩ := lst_rd R.ext h h1
      refine ⟨p, ns, rfl, by rw [← ints_of h2 r]; exact hp, fun ns' q hperm hs hq => ?_⟩
      obtain ⟨f1, f2, f3⟩ := R.fresh hq
      exact l (.ref q) (.new _) F _ (Same.refl F) (R.lay _ hq) ⟨q, rfl, f1, f2, ⟨_, upd_same, .lst (reps_ints ns')⟩, f3⟩ (ho ns' hperm hs)
  · exact ho.elim
/-- the pair that a tracked tuple holds -/
def prAt (H : Hp) : V → Int × Int
  | .ref t => match H t with
    | some (.tup [.int i, .int j]) => (i, j)
    | _ => (0, 0)
  | _ => (0, 0)
theorem prs_rep (e : Same F H) : ∀ {vs : List V} {ps : List (Int × Int)}, Reps K F vs (ps.map iiD) → (vs.map (prAt H) = ps ∧ ∀ x ∈ vs, ∃ t, x = V.ref t ∧ F t = some (.tup [.int (prAt H x).1, .int (prAt H x).2]))
  | vs, [], h => by
    cases h
    exact ⟨rfl, by simp⟩
  | vs, p :: ps, h => by
    cases h with
    | cons r t =>
      obtain ⟨h1, h2⟩ := prs_rep e t
      obtain ⟨i, j⟩ := p
      cases r with
      | @tup t0 _ _ hf rr =>
        cases rr with
        | cons ra rr =>
          cases rr with
          | cons rb rr =>
            cases rr
            cases ra
            cases rb
            have hp : prAt H (.ref t0) = (i, j) := by
              simp only [prAt, e _ _ hf]
            refine ⟨by rw [List.map_cons, h1, hp], fun x hx => ?_⟩
            rcases List.mem_cons.mp hx with rfl | hx
            · exact ⟨_, rfl, by rw [hp]; exact hf⟩
            · exact h2 x hx
theorem prs_back {ys : List V} (h : ∀ x ∈ ys, ∃ t, x = V.ref t ∧ F t = some (.tup [.int (prAt H x).1, .int (prAt H x).2])) : Reps K F ys ((ys.map (prAt H)).map iiD) := by
  induction ys with
  | nil => exact .nil
  | cons y ys ih =>
    obtain ⟨t, e, ht⟩ := h y (List.mem_cons_self ..)
    refine .cons ?_ (ih fun x hx => h x (List.mem_cons_of_mem _ hx))
    subst e
    exact .tup ht (.cons (.int _) (.cons (.int _) .nil))
theorem dSortP_ok : CallS K (rSortedPO K) dSortP := by
  intro E F H σ a vs ds Q k R h ho l
  unfold dSortP at ho
  split at ho
  · obtain ⟨xs, h1, ho⟩ := onO_iff.mp ho
    obtain ⟨ps, h2, ho⟩ := onO_iff.mp ho
    cases h with
    | cons h t =>
      cases t
      obtain ⟨p, vs, rfl, hp, r⟩ := lst_rd R.ext h h1
      rw [prsOf_some h2] at r
      obtain ⟨k1, k2⟩ := prs_rep R.ext r
      refine ⟨p, vs, prAt H, rfl, hp, fun x hx => ?_, fun ys q hs hb hq => ?_⟩
      · obtain ⟨t, e1, e2⟩ := k2 x hx
        exact ⟨t, e1, R.ext _ _ e2⟩
      · obtain ⟨f1, f2, f3⟩ := R.fresh hq
        have hperm := hb.perm
        refine l (.ref q) (.new _) F _ (Same.refl F) (R.lay _ hq) ⟨q, rfl, f1, f2, ⟨_, upd_same, .lst (prs_back fun x hx => k2 x (hperm.mem_iff.mp hx))⟩, f3⟩ (ho (ys.map (prAt H)) ?_ ?_)
        · rw [← k1]
          exact hperm.map _
        · rw [List.pairwise_map]
          exact hs.imp fun {x y} z => SrtO.lexB_no.mp z
  · exact ho.elim
end
/-! ### a walk of a list of the memory -/
/-- Inv by the turn; the list stays what it is -/
@[irreducible] def forA (p : Addr) (items : List D) (wg : WG) (wb : WM) (D : EndsG) (g : Gm) (a : PSt) : Prop := ∃ Inv : Nat → Gm → PSt → Prop, Inv 0 g a ∧ (∀ i g2 a2, Inv i g2 a2 → gAt g2 p = some (.lst items)) ∧
  (∀ i g2 a2 d, items[i]? = some d → Inv i g2 a2 → wg d a2 fun a3 => wb g2 { D with nx := Inv (i + 1), ct := Inv (i + 1), bk := D.nx } a3) ∧ ∀ g2 a2, Inv items.length g2 a2 → D.nx g2 a2
theorem fora_i {p : Addr} {items : List D} {wg : WG} {wb : WM} {D : EndsG} {g : Gm} {a : PSt} (Inv : Nat → Gm → PSt → Prop) (h0 : Inv 0 g a) (hk : ∀ i g2 a2, Inv i g2 a2 → gAt g2 p = some (.lst items))
    (hs : ∀ i g2 a2 d, items[i]? = some d → Inv i g2 a2 → wg d a2 fun a3 => wb g2 { D with nx := Inv (i + 1), ct := Inv (i + 1), bk := D.nx } a3) (he : ∀ g2 a2, Inv items.length g2 a2 → D.nx g2 a2) : forA p items wg wb D g a := by
  unfold forA
  exact ⟨Inv, h0, hk, hs, he⟩
def wmForA (i : Nat) (wg : WG) (wb : WM) : WM := fun g D a => onAdr a[i]? fun p => onLs (gAt g p) fun xs => forA p xs wg wb D g a
theorem sm_forA {X : Cx} {W : L2.St → XK} {tg e : Expr} {i : Nat} {gg : TG} {wg : WG} {sl : List Nat} {tb' : TS} {wb : WM} {pos : Pos} {body : List Stmt} (hp : PassesOwn (model X.prog X.w) X.A X.env X.xe) (hc : X.calm = true) (he : PE X e (tVar i)) (hg : SG X tg gg wg sl) (hb : SMs X W body tb' wb)
    (hs : ∀ x, foldedSetIterable e X.env x = pure x := by intro _; rfl) : SM X W (.For tg e body [] pos) (tFor (iList X.K (tVar i)) gg tb') (wmForA i wg wb) := by
  refine ⟨ps_for hp hc (pi_list he) hg.1 hb.1 hs, fun E F H σ a g D DA Rl hw l => ?_⟩
  obtain ⟨p, ha, hw⟩ := onAdr_iff.mp hw
  obtain ⟨items, hgp, hw⟩ := onLs_iff.mp hw
  unfold forA at hw
  obtain ⟨Inv, h0, hk, hst, hend⟩ := hw
  have seq : ∀ {F2 H2 : Hp} {σ2 : L2.St} {a2 : PSt} {g2 : Gm}, RelG X.K E F2 H2 σ2 a2 g2 → gAt g2 p = some (.lst items) → ∃ vs, H2 p = some (.lst vs) ∧ Reps X.K F2 vs items := by
    intro F2 H2 σ2 a2 g2 R2 h2
    obtain ⟨_, _, _, o, ho, t⟩ := R2.m p _ h2
    cases t with
    | lst r => exact ⟨_, ho, r⟩
  obtain ⟨vs, hp1, _⟩ := seq Rl hgp
  refine ⟨.ref p, slot_adr Rl.r ha, p, rfl, ⟨vs, SqL.of hp1⟩, ?_⟩
  refine ⟨fun i m σ' H' => m = items.length - i ∧ i ≤ items.length ∧ ∃ F2 a2 g2, Same F F2 ∧ RelG X.K E F2 H' σ' a2 g2 ∧ Inv i g2 a2, ⟨_, rfl, Nat.zero_le _, F, a, g, Same.refl F, Rl, h0⟩, ?_⟩
  rintro i m σ' H' ⟨rfl, hi', F2, a2, g2, s2, R2, hinv⟩
  obtain ⟨vs, hp2, rp2⟩ := seq R2 (hk i g2 a2 hinv)
  by_cases hlt : i < items.length
  · have hlv : i < vs.length := by
      rw [rp2.length]
      exact hlt
    refine .inr ⟨⟨vs, vs[i], SqL.of hp2, List.getElem?_eq_getElem hlv⟩, fun σ3 H3 => ∃ F3 a3 g3, Same F F3 ∧ RelG X.K E F3 H3 σ3 a3 g3 ∧ Inv (i + 1) g3 a3, fun σ3 H3 ⟨F3, a3, g3, s3, R3, h3⟩ => ⟨items.length - (i + 1), by omega, rfl, hlt, F3, a3, g3, s3, R3, h3⟩, fun x H3 y => ?_⟩
    obtain ⟨rfl, y⟩ := y
    obtain ⟨d, hd, rp⟩ := rp2.get (y vs (SqL.of hp2))
    refine hg.2 (E.mem H3 g2) F2 H3 σ' a2 x d _ _ R2.to rp (hst i g2 a2 d hd hinv) fun σ4 a4 _ R4 hq4 => hb.2 E F2 H3 σ4 a4 g2 _ _ (R2.of (Same.refl F2) R4) hq4 ⟨fun σ5 F5 H5 a5 g5 e5 R5 q5 => ?_, fun σ5 F5 H5 a5 g5 e5 R5 q5 => ?_, fun σ5 F5 H5 a5 g5 e5 R5 q5 => ?_, fun σ5 F5 H5 a5 v r e5 => ?_, fun σ5 => ?_⟩
    · exact ⟨F5, a5, g5, s2.trans e5, R5, q5⟩
    · exact l.nx σ5 F5 H5 a5 g5 (s2.trans e5) R5 q5
    · exact ⟨F5, a5, g5, s2.trans e5, R5, q5⟩
    · exact l.rt σ5 F5 H5 a5 v r (s2.trans e5)
    · exact (l.ex σ5).to s2
  · have e : i = items.length := by omega
    subst e
    exact .inl ⟨⟨vs, SqL.of hp2, by rw [rp2.length]; exact Nat.le_refl _⟩, l.nx σ' F2 H' a2 g2 s2 R2 (hend g2 a2 hinv)⟩
end DS

namespace DS
open PySem PySem.Spec PyProof.Rows L2
/-! ### a dict of the memory is data from here on -/
section
variable {X : Cx} {W : L2.St → XK} {st : List Stmt} {t : TS} {w : WM}
def wmFzK (i : Nat) (w : WM) : WM := fun g DA a => onAdr a[i]? fun root => ∃ es : List (L2.Key × Addr × List D), TabG D.dK g root es ∧ w [] DA (a.set i (some ⟨.no, .dK ((tabOf es).map fun e => (e.1, .lst e.2))⟩))
def wmFzDT (i : Nat) (w : WM) : WM := fun g DA a => onAdr a[i]? fun root => ∃ es : List (List L2.Key × Addr × List D), TabG D.dT g root es ∧ w [] DA (a.set i (some ⟨.no, .dT ((tabOf es).map fun e => (e.1, .lst e.2))⟩))
theorem sms_fzK (i : Nat) (h : SMs X W st t w) : SMs X W st t (wmFzK i w) := by
  refine ⟨h.1, fun E F H σ a g D DA R hw l => ?_⟩
  obtain ⟨root, hr, es, hT, hk⟩ := onAdr_iff.mp hw
  obtain ⟨F2, s, R2, rp⟩ := tab_freezeK R hT
  have rp2 : Rep X.K F2 (.ref root) (.dK ((tabOf es).map fun e => (e.1, .lst e.2))) := by
    unfold tabOf
    rw [List.map_map]
    exact rp
  exact h.2 E F2 H σ _ [] D DA ⟨rel_same R2 (slot_adr R.r hr) rp2, mem_nil⟩ hk (l.to s)
theorem sms_fzDT (i : Nat) (h : SMs X W st t w) : SMs X W st t (wmFzDT i w) := by
  refine ⟨h.1, fun E F H σ a g D DA R hw l => ?_⟩
  obtain ⟨root, hr, es, hT, hk⟩ := onAdr_iff.mp hw
  obtain ⟨F2, s, R2, rp⟩ := tab_freezeT R hT
  have rp2 : Rep X.K F2 (.ref root) (.dT ((tabOf es).map fun e => (e.1, .lst e.2))) := by
    unfold tabOf
    rw [List.map_map]
    exact rp
  exact h.2 E F2 H σ _ [] D DA ⟨rel_same R2 (slot_adr R.r hr) rp2, mem_nil⟩ hk (l.to s)
end
/-! ### a comprehension over a list of one's own that stays one's own -/
@[irreducible] def lcO (k : Nat) (o : Ow) (items : List D) (vs : List Nat) (wg : WG) (wt : WT) (we : WE) (a1 : PSt) (q : Res → PSt → Prop) : Prop := ∃ Inv : Nat → List D → PSt → Prop, Inv 0 [] a1 ∧ (∀ i acc a2, Inv i acc a2 → a2[k]? = some (some ⟨o, .lst items⟩)) ∧
  (∀ i acc a2 d, items[i]? = some d → Inv i acc a2 → wg d (wipeA a2 vs) fun a3 => wt a3 (fun b a4 => br b
    (we a4 (fun r a5 => fz r a5 fun y a6 => acc.length < sizeLine ∧ Inv (i + 1) (acc ++ [y]) (wipeA a6 vs)) (fun _ _ => False)) (Inv (i + 1) acc (wipeA a4 vs))) (fun _ _ => False)) ∧
  ∀ acc a2, Inv items.length acc a2 → q (.new (.lst acc)) (keepNo a1 vs a2)
theorem lc_o {k : Nat} {o : Ow} {items : List D} {vs : List Nat} {wg : WG} {wt : WT} {we : WE} {a1 : PSt} {q : Res → PSt → Prop} (Inv : Nat → List D → PSt → Prop) (h0 : Inv 0 [] a1) (hk : ∀ i acc a2, Inv i acc a2 → a2[k]? = some (some ⟨o, .lst items⟩))
    (hs : ∀ i acc a2 d, items[i]? = some d → Inv i acc a2 → wg d (wipeA a2 vs) fun a3 => wt a3 (fun b a4 => br b
    (we a4 (fun r a5 => fz r a5 fun y a6 => acc.length < sizeLine ∧ Inv (i + 1) (acc ++ [y]) (wipeA a6 vs)) (fun _ _ => False)) (Inv (i + 1) acc (wipeA a4 vs))) (fun _ _ => False))
    (he : ∀ acc a2, Inv items.length acc a2 → q (.new (.lst acc)) (keepNo a1 vs a2)) : lcO k o items vs wg wt we a1 q := by
  unfold lcO
  exact ⟨Inv, h0, hk, hs, he⟩
def wLcO (k : Nat) (vs : List Nat) (wg : WG) (wt : WT) (we : WE) : WE := fun a q _ => onOwn a[k]? fun o items => lcO k o items vs wg wt we a q
theorem own_at {K : PySem.W.Frag} {E : En} {F H : Hp} {i : Nat} {v : V} {o : Ow} {items : List D} (ho : o ≠ .no) (h : OwnAt K E F H i v ⟨o, .lst items⟩) : ∃ p vs, v = .ref p ∧ H p = some (.lst vs) ∧ Reps K F vs items := by
  cases o with
  | no => exact absurd rfl ho
  | own =>
    obtain ⟨p, rfl, _, _, ob, hob, t⟩ := h
    cases t with
    | lst r => exact ⟨p, _, rfl, hob, r⟩
  | lent =>
    obtain ⟨p, rfl, _, _, _, ob, hob, t⟩ := h
    cases t with
    | lst r => exact ⟨p, _, rfl, hob, r⟩
theorem lcO_ok {X : Cx} {W : L2.St → XK} {k : Nat} {e0 : Expr} (hE : PE X e0 (tVar k)) {g : TG} {wg : WG} {tt : TT} {wt : WT} {te : TE} {we : WE} {vs sl : List Nat}
    (hg : ∀ E F H σ a v d Q q, Rel X.K E F H σ a → Rep X.K F v d → wg d a q → (∀ σ' a', Only sl σ σ' → Rel X.K E F H σ' a' → q a' → Q σ' H) → g v σ H Q) (hsl : ∀ j ∈ sl, j ∈ vs)
    (ht : ∀ E F H σ a Q q qe, Rel X.K E F H σ a → wt a q qe → Lt X.K E F σ q Q → Lx X.K E F σ qe (W0 σ) → tt σ H Q)
    (he : ∀ E F H σ a Q q qe, Rel X.K E F H σ a → we a q qe → Ln X.K E F σ q Q → Lx X.K E F σ qe (W0 σ) → te σ H Q) :
    ∀ E F H σ a Q q qe, Rel X.K E F H σ a → wLcO k vs wg wt we a q qe → Ln X.K E F σ q Q → Lx X.K E F σ qe (W σ) → tLc (iList X.K (tVar k)) g tt te vs σ H Q := by
  intro E F H σ a Q q qe R hw l lx
  obtain ⟨o, items, hl, ho, hw⟩ := onOwn_iff.mp hw
  unfold lcO at hw
  obtain ⟨Inv, h0, hk, hst, hend⟩ := hw
  obtain ⟨v, hσ, hv⟩ := R.sl k _ hl
  obtain ⟨p, xs0, rfl, hp1, _⟩ := own_at ho hv
  have seq : ∀ {E2 : En} {F2 H2 : Hp} {a2 : PSt}, Rel X.K E2 F2 H2 σ a2 → a2[k]? = some (some ⟨o, .lst items⟩) → ∃ xs, H2 p = some (.lst xs) ∧ Reps X.K F2 xs items := by
    intro E2 F2 H2 a2 R2 h2
    obtain ⟨v2, hs2, hv2⟩ := R2.sl k _ h2
    obtain ⟨p2, xs, rfl, hx, r⟩ := own_at ho hv2
    rw [hσ] at hs2
    cases hs2
    exact ⟨xs, hx, r⟩
  refine ⟨.ref p, hσ, p, rfl, ⟨xs0, SqL.of hp1⟩, ?_⟩
  intro Dd hD
  obtain ⟨f1, f2, f3⟩ := R.fresh hD
  have hL : ¬ E.L Dd := fun z => R.lt Dd z f2
  have hF0 : E.F Dd = none := R.f0.free f1
  have nt : ∀ (zs : List V) (xs : List V), (HO.lst zs) ≠ .tup xs := fun zs xs z => by cases z
  refine ⟨fun i m H' => m = items.length - i ∧ i ≤ items.length ∧ ∃ F2 a2 accV acc, Same F F2 ∧ Rel X.K (E.side Dd (.lst accV)) F2 H' σ a2 ∧ Reps X.K F2 accV acc ∧ Inv i acc a2,
    ⟨_, rfl, Nat.zero_le _, F, a, [], [], Same.refl F, (R.lay (.lst []) hD).toSide f1 f2 f3 upd_same, .nil, h0⟩, ?_⟩
  rintro i m H' ⟨rfl, hi', F2, a2, accV, acc, s2, R2, racc, hinv⟩
  obtain ⟨xs, hp2, rp2⟩ := seq R2 (hk i acc a2 hinv)
  by_cases hlt : i < items.length
  · have hlv : i < xs.length := by
      rw [rp2.length]
      exact hlt
    refine .inr ⟨⟨xs, xs[i], SqL.of hp2, List.getElem?_eq_getElem hlv⟩, fun H3 => ∃ F3 a3 accV acc, Same F F3 ∧ Rel X.K (E.side Dd (.lst accV)) F3 H3 σ a3 ∧ Reps X.K F3 accV acc ∧ Inv (i + 1) acc a3,
      fun H3 ⟨F3, a3, av, ac, s3, R3, r3, h3⟩ => ⟨items.length - (i + 1), by omega, rfl, hlt, F3, a3, av, ac, s3, R3, r3, h3⟩, fun x H3 y => ?_⟩
    obtain ⟨rfl, y⟩ := y
    obtain ⟨d, hd, rp⟩ := rp2.get (y xs (SqL.of hp2))
    refine hg _ F2 H3 (L2.wipe σ vs) (wipeA a2 vs) x d _ _ (R2.wipe vs) rp (hst i acc a2 d hd hinv) fun σ4 a4 o4 R4 hq4 => ⟨wipe_only o4 hsl, ?_⟩
    have back : ∀ {F5 H5 : Hp} {a5 : PSt} {EE : En}, Rel X.K EE F5 H5 σ4 a5 → Rel X.K EE F5 H5 σ (wipeA a5 vs) := by
      intro F5 H5 a5 EE R5
      refine R5.less (by rw [wipeA_length, R5.len, o4.1, L2.wipe_length]) fun j av e => ?_
      obtain ⟨h1, h2⟩ := wipeA_some e
      refine ⟨h1, ?_⟩
      rw [o4.2 j fun z => h2 (hsl j z), L2.wipe_out h2]
    refine ht _ F2 H3 σ4 a4 _ _ _ R4 hq4 (fun b F5 H5 a5 e5 R5 q5 => ?_) (fun x a c dx F5 H5 _ _ _ z => z)
    cases b with
    | false =>
      rw [if_neg Bool.false_ne_true]
      exact ⟨F5, _, accV, acc, s2.trans e5, back R5, racc.mono e5, br_ff q5 rfl⟩
    | true =>
      rw [if_pos rfl]
      refine he _ F5 H5 σ4 a5 _ _ _ R5 (br_tt q5 rfl) (fun v r F6 H6 a6 e6 R6 rp6 q6 => ?_) (fun x a c dx F5 H5 _ _ _ z => z)
      obtain ⟨F7, a7, yd, s7, R7, rp7, hz, hinv'⟩ := fz_ok R6 rp6 q6
      have R8 := back R7
      obtain ⟨_, _, _, g3⟩ := R8.ofSide f2 hL hF0 (nt accV)
      have sAll : Same F2 F7 := (e5.trans e6).trans s7
      have racc' : Reps X.K F7 accV acc := racc.mono sAll
      exact ⟨accV, g3, by rw [racc'.length]; exact hz, F7, _, accV ++ [v], acc ++ [yd], s2.trans sAll, R8.sideSet f2 hL hF0 (nt accV), racc'.append (.cons rp7 .nil), hinv'⟩
  · have e : i = items.length := by omega
    subst e
    obtain ⟨R3, g1, g2, g3⟩ := R2.ofSide f2 hL hF0 (nt accV)
    refine .inl ⟨⟨xs, SqL.of hp2, by rw [rp2.length]; exact Nat.le_refl _⟩, ?_⟩
    refine l (.ref Dd) (.new (.lst acc)) F2 H' _ s2 (Rel.keepNo R s2 R3 vs) ⟨Dd, rfl, g1, f2, ⟨_, g3, .lst racc⟩, ?_⟩ (hend acc a2 hinv)
    rintro ⟨j, av, h1, h2, h3⟩
    exact g2 ⟨j, av, keepNo_own vs j av h1 h2, h2, h3⟩
section
variable {X : Cx} {W : L2.St → XK}
theorem se_lcO {k : Nat} {elt tg iter : Expr} {ifs : List Expr} {sc : Scope} {own : List (Str × Nat)} {pos : Pos} {wg : WG} {wt : WT} {we : WE} {sl : List Nat} (hc : X.calm = true) (hN : X.N.Nodup) (hi : PE X iter (tVar k)) (ok : BlkOk X.N X.env.scope sc own)
    (hg : InBlk X sc fun Y => ∃ g, SG Y tg g wg sl) (hsl : ∀ j ∈ sl, j ∈ own.map (·.2)) (ht : InBlk X sc fun Y => ∃ t, STs Y W0 ifs t wt) (he : InBlk X sc fun Y => ∃ t, SE Y W0 elt t we) (hs : ∀ x, foldedSetIterable iter X.env x = pure x := by intro _; rfl) :
    SE X W (.ListComp elt [⟨tg, iter, ifs, 0⟩] sc pos) (tLc (iList X.K (tVar k)) (gG X.K wg sl) (tT X.K W0 wt) (tE X.K W0 we) (own.map (·.2))) (wLcO k (own.map (·.2)) wg wt we) :=
  ⟨pe_lc hc hN (pi_list hi) ok (fun s H C cl fp => (hg s H C cl fp).elim fun _ h => h.own) (fun s H C cl fp => (ht s H C cl fp).elim fun _ h => h.own) (fun s H C cl fp => (he s H C cl fp).elim fun _ h => h.own) hs,
    lcO_ok hi (fun E F H σ a v d Q q R rp hw l => ⟨E, F, a, d, q, R, rp, hw, l⟩) hsl (fun E F H σ a Q q qe R hw l lx => ⟨E, F, a, q, qe, R, hw, l, lx⟩) (fun E F H σ a Q q qe R hw l lx => ⟨E, F, a, q, qe, R, hw, l, lx⟩)⟩
theorem ss_setLcO {k : Nat} {i : Nat} {y : Str} {py : Pos} {elt tg iter : Expr} {ifs : List Expr} {sc : Scope} {own : List (Str × Nat)} {pos spos : Pos} {wg : WG} {wt : WT} {we : WE} {sl : List Nat} (hc : X.calm = true) (hN : X.N.Nodup) (hy : X.N[i]? = some y) (hyl : X.env.scope.names.lookup y = some .local)
    (hsw : swapsWith (.ListComp elt [⟨tg, iter, ifs, 0⟩] sc pos) (some (.Name y py)) spos.line X.env = pure true) (hi : PE X iter (tVar k)) (ok : BlkOk X.N X.env.scope sc own)
    (hg : InBlk X sc fun Y => ∃ g, SG Y tg g wg sl) (hsl : ∀ j ∈ sl, j ∈ own.map (·.2)) (ht : InBlk X sc fun Y => ∃ t, STs Y W0 ifs t wt) (he : InBlk X sc fun Y => ∃ t, SE Y W0 elt t we) (hs : ∀ x, foldedSetIterable iter X.env x = pure x := by intro _; rfl) :
    SS X W (.Assign [.Name y py] (.ListComp elt [⟨tg, iter, ifs, 0⟩] sc pos) spos) (tAsg (tLc (iList X.K (tVar k)) (gG X.K wg sl) (tT X.K W0 wt) (tE X.K W0 we) (own.map (·.2))) (gName i)) (wSet i (wLcO k (own.map (·.2)) wg wt we)) := by
  refine ⟨ps_setLc hc hN hy hyl hsw (pi_list hi) ok (fun s H C cl fp => (hg s H C cl fp).elim fun _ h => h.own) (fun s H C cl fp => (ht s H C cl fp).elim fun _ h => h.own) (fun s H C cl fp => (he s H C cl fp).elim fun _ h => h.own) hs, fun E F H σ a D DA R hw l => ?_⟩
  refine lcO_ok (W := W) hi (fun E F H σ a v d Q q R rp hw l => ⟨E, F, a, d, q, R, rp, hw, l⟩) hsl (fun E F H σ a Q q qe R hw l lx => ⟨E, F, a, q, qe, R, hw, l, lx⟩) (fun E F H σ a Q q qe R hw l lx => ⟨E, F, a, q, qe, R, hw, l, lx⟩) E F H σ a _ _ _ R hw (fun v r F' H' a' e R' rp q => ?_) (l.ex σ)
  obtain ⟨F2, a2, s, R2, hk⟩ := sto_ok R' rp q
  exact l.nx _ F2 H' a2 (e.trans s) R2 hk
end
end DS

namespace DS
open PySem PySem.Spec PyProof.Rows L2
/-! ### what is never come to; a try whose body raises nothing -/
section
variable {X : Cx} {W : L2.St → XK}
def wNever : WS := fun _ _ => False
theorem ss_never {st : Stmt} : SS X W st tNever wNever := ⟨ps_never, fun _ _ _ _ _ _ _ _ h _ => h.elim⟩
def tS (K : PySem.W.Frag) (W : L2.St → XK) (w : WS) : TS := fun D σ H => ∃ E F a DA, Rel K E F H σ a ∧ w DA a ∧ Lk K E F D DA W
theorem SSs.own {st : List Stmt} {t : TS} {w : WS} (h : SSs X W st t w) : PSs X st (tS X.K W w) :=
  ⟨fun pins s σ H D I ⟨E, F, a, DA, R, hw, l⟩ => h.1.run pins s σ H D I (h.2 E F H σ a D DA R hw l)⟩
def wTry0 (w : WS) : WS := fun DA a => w { DA with ex := fun _ _ => False } a
theorem ss_try0 {x : Str} {c : Value} {body suite : List Stmt} {b₀ : Stmt} {np pos pos' : Pos} {w : WS} (hs : X.stack = X.env :: X.outer) (hf : X.env.frame = some X.env.locals) (hc : Names X x c)
    (hb : ∀ (pn : List (Addr × Obj)) (xe : Value → Shared → Prop), PassesOwn (model X.prog X.w) X.A X.env xe → ∃ t, SSs (X.tr pn xe) W0 body t w) :
    SS X W (.Try body [.ExceptHandler (some (.Name x np)) none (b₀ :: suite) pos'] [] [] pos) (fun D σ H => tS X.K W0 w D σ H) (wTry0 w) := by
  refine ⟨ps_try_only (tb := fun _ => tS X.K W0 w) (ts := fun _ _ _ => tNever) (Wout := fun _ _ _ _ => False) hs hf hc ?_ ?_ ?_, fun E F H σ a D DA R hw l => ?_⟩
  · rintro u s' ⟨a, B, sI, pins, σ, H, cls, d, e, I, nb, up, sky, na, os, ag, w⟩
    exact w.elim
  · intro _ pn xe _ hp
    obtain ⟨t, h⟩ := hb pn xe hp
    exact h.own
  · intro a oe cls d pn _ _
    exact pss_never
  · refine ⟨E, F, a, _, R, hw, l.nx, l.bk, l.ct, l.rt, ?_⟩
    intro τ x a' cls dx F' H' _ _ _ z
    exact z.elim
end
end DS

namespace DS
open PySem PySem.Spec PyProof.Rows L2
/-! ### x = y.pop() -/
section
variable {X : Cx} {W : L2.St → XK} {pos : Pos}
def wSetPop (j i : Nat) : WS := fun D a => onOwn a[i]? fun o xs => onO xs.getLast? fun d => D.nx ((a.set i (some ⟨o, .lst xs.dropLast⟩)).set j (some ⟨.no, d⟩))
theorem ss_setPop {i j : Nat} {x : Str} {pos' : Pos} {o : Expr} {apos cpos : Pos} (hN : X.N.Nodup) (hj : X.N[j]? = some x) (hx : Loc X.env.scope x) (ho : PE X o (tVar i)) (hbase : attributeBase o "pop" X.env (eval o X.env) = eval o X.env := by rfl) (hline : (apos.endLine == cpos.line) = true := by rfl)
    (hs : swapsWith (.Call (.Attribute o "pop" apos) [] [] cpos) (some (.Name x pos')) pos.line X.env = pure false := by rfl) (hf : X.fn x = true ∨ X.env.scope.names.lookup x = some .local := by first | exact .inl rfl | exact .inr rfl | assumption) :
    SS X W (.Assign [.Name x pos'] (.Call (.Attribute o "pop" apos) [] [] cpos) pos) (tAsg (tBM0 X.K "list" rPop (tVar i)) (gName j)) (wSetPop j i) := by
  refine ⟨ps_set hN hj hx (pe_bm0 PySem.F.plainAttrs_list PySem.F.slot_list_pop PySem.F.type_list_pop mt_pop ho hbase hline) hs hf, fun E F H σ a D DA R hw l => ?_⟩
  obtain ⟨ow, xs, ha, ho', hw⟩ := onOwn_iff.mp hw
  obtain ⟨d, hd, hk⟩ := onO_iff.mp hw
  obtain ⟨p, vs, hv, hp, r⟩ := slot_list R ha
  rw [List.getLast?_eq_getElem?] at hd
  obtain ⟨y, hy, ry⟩ := r.get' hd
  refine ⟨.ref p, hv, .inl ⟨rfl, vs, .of hp⟩, p, vs, y, rfl, rfl, hp, by rw [r.length]; exact hy, ?_⟩
  have R2 := R.write ha ho' hv (.lst r.dropLast)
  exact l.nx _ F _ _ (Same.refl F) (R2.setDat ry) hk
end
end DS

namespace DS
open PySem PySem.Spec PyProof.Rows L2
/-! ### lists of empty lists, remembered; one of them named; extended -/
section
variable {K : PySem.W.Frag} {E : En} {F H : Hp} {σ : L2.St} {a : PSt} {g : Gm}
theorem MemOk.sideSet {Dd : Addr} {o o' : HO} (M : MemOk K (E.side Dd o) F H σ a g) : MemOk K (E.side Dd o') F (upd H Dd o') σ a g := fun q d e => by
  obtain ⟨f1, f2, f3, u, hu, t⟩ := M q d e
  have hne : q ≠ Dd := fun z => by
    have f2 : upd E.H Dd o q = none := f2
    rw [z, upd_same] at f2
    cases f2
  refine ⟨f1, ?_, f3, u, by rw [upd_ne hne]; exact hu, t⟩
  have f2 : upd E.H Dd o q = none := f2
  show upd E.H Dd o' q = none
  rw [upd_ne hne] at f2 ⊢
  exact f2
theorem MemOk.less {σ' : L2.St} {a' : PSt} (M : MemOk K E F H σ a g) (h : ∀ q, Owned σ' a' q → Owned σ a q) : MemOk K E F H σ' a' g := fun q d e => by
  obtain ⟨f1, f2, f3, u, hu, t⟩ := M q d e
  exact ⟨f1, f2, fun z => f3 (h q z), u, hu, t⟩
end
section
variable {X : Cx} {W : L2.St → XK} {pos : Pos}
/-- x = [[] for y in ys], all remembered -/
def wmLcNL (j : Nat) (wi : WI) (vs : List Nat) (wg : WG) : WM := fun g D a => wi a (fun items a1 => items.length < sizeLine ∧ (∀ d, d ∈ items → wg d (wipeA a1 vs) fun a3 => wipeA a3 vs = wipeA a1 vs) ∧
  ∀ g2 p es, LisG mkL g2 p es → es.map (fun e => e.2.2) = List.replicate items.length [] → D.nx g2 ((keepNo a1 vs (wipeA a1 vs)).set j (some ⟨.no, .adr p⟩))) D.ex
theorem sm_setLcNL {i : Nat} {y : Str} {py p3 : Pos} {tg iter : Expr} {scope : Scope} {own : List (Str × Nat)} {pos spos : Pos} {ti : TI} {wi : WI} {wg : WG} {sl : List Nat} (hc : X.calm = true) (hN : X.N.Nodup) (hy : X.N[i]? = some y) (hyl : X.env.scope.names.lookup y = some .local)
    (hsw : swapsWith (.ListComp (.List [] p3) [⟨tg, iter, [], 0⟩] scope pos) (some (.Name y py)) spos.line X.env = pure true) (hi : SI X W tg iter ti wi) (ok : BlkOk X.N X.env.scope scope own)
    (hg : ∀ (s : Shared) (H : Hp) (C : Addr) (cl : List (Str × Addr)) (fp : List Addr), ∃ g, SG (X.blk s H scope (compEnvC scope cl C X.env) fp) tg g wg sl) (hsl : ∀ j ∈ sl, j ∈ own.map (·.2))
    (hs : ∀ x, foldedSetIterable iter X.env x = pure x := by intro _; rfl) :
    SM X W (.Assign [.Name y py] (.ListComp (.List [] p3) [⟨tg, iter, [], 0⟩] scope pos) spos) (tAsg (tLc ti (gG X.K wg sl) tYes (tLst tNil) (own.map (·.2))) (gName i)) (wmLcNL i wi (own.map (·.2)) wg) := by
  refine ⟨ps_setLc hc hN hy hyl hsw hi.1 ok (fun s H C cl fp => let ⟨_, h⟩ := hg s H C cl fp; h.own) (fun s H C cl fp => pts_nil) (fun s H C cl fp => pe_lst pa_nil) hs, fun E F H σ a g D DA R hw l => ?_⟩
  generalize own.map (·.2) = vs at *
  refine hi.2 (E.mem H g) F H σ a _ _ _ R.to hw (fun J items F1 H1 a1 e1 R1 it hq => ?_) (lx_mem R (l.ex σ))
  obtain ⟨hz, hbind, hend⟩ := hq
  have R1 := R.of e1 R1
  intro Dd hD
  obtain ⟨f1, f2, f3⟩ := R1.r.fresh hD
  have hL : ¬ E.L Dd := fun z => R1.r.lt Dd z f2
  have hF0 : E.F Dd = none := R1.r.f0.free f1
  have gD := gAt_free R1 hD
  have R1' := R1.lay (.lst []) hD
  refine ⟨fun i m H' => m = items.length - i ∧ i ≤ items.length ∧ ∃ F2 a2 qs g2, Same F1 F2 ∧ RelG X.K (E.side Dd (.lst (qs.map V.ref))) F2 H' σ a2 g2 ∧ (a2 = a1 ∨ a2 = wipeA a1 vs) ∧ qs.length = i ∧ qs.Nodup ∧ ∀ q ∈ qs, gAt g2 q = some (.lst []),
    ⟨_, rfl, Nat.zero_le _, F1, a1, [], g, Same.refl F1, ⟨R1'.r.toSide f1 f2 f3 upd_same, fun q d e => ?_⟩, .inl rfl, rfl, List.nodup_nil, fun q h => by cases h⟩, ?_⟩
  · obtain ⟨k1, k2, k3, u, hu, t⟩ := R1'.m q d e
    have hne : q ≠ Dd := fun z => by rw [z, gD] at e; cases e
    exact ⟨k1, by show upd E.H Dd _ q = none; rw [upd_ne hne]; exact k2, k3, u, hu, t⟩
  rintro i m H' ⟨rfl, hi', F2, a2, qs, g2, s2, R2, ha2, hql, hnd, hkid⟩
  have ew : wipeA a2 vs = wipeA a1 vs := by
    rcases ha2 with rfl | rfl
    · rfl
    · exact wipe_wipe fun w hw => hw
  by_cases hlt : i < items.length
  · refine .inr ⟨it.go i _ σ a2 F2 H' s2 R2.r hlt, fun H3 => ∃ F3 a3 qs g3, Same F1 F3 ∧ RelG X.K (E.side Dd (.lst (qs.map V.ref))) F3 H3 σ a3 g3 ∧ (a3 = a1 ∨ a3 = wipeA a1 vs) ∧ qs.length = i + 1 ∧ qs.Nodup ∧ ∀ q ∈ qs, gAt g3 q = some (.lst []),
      fun H3 ⟨F3, a3, qs, g3, s3, R3, h3⟩ => ⟨items.length - (i + 1), by omega, rfl, hlt, F3, a3, qs, g3, s3, R3, h3⟩, fun x H3 y => ?_⟩
    obtain ⟨F3, d, s3, R3, hd, rp⟩ := it.yld i ((E.side Dd (.lst (qs.map V.ref))).mem H' g2) σ a2 F2 H' x H3 s2 R2.to hlt y
    have hb := hbind d (List.mem_of_getElem? hd)
    rw [← ew] at hb
    refine ⟨_, F3, wipeA a2 vs, d, _, R3.wipe vs, rp, hb, fun σ4 a4 o4 R4 hq4 => ⟨wipe_only o4 hsl, ?_⟩⟩
    have R5 : Rel X.K ((E.side Dd (.lst (qs.map V.ref))).mem H' g2) F3 H3 σ (wipeA a4 vs) := by
      refine R4.less (by rw [wipeA_length, R4.len, o4.1, L2.wipe_length]) fun j av e => ?_
      obtain ⟨h1, h2⟩ := wipeA_some e
      refine ⟨h1, ?_⟩
      rw [o4.2 j fun z => h2 (hsl j z), L2.wipe_out h2]
    rw [hq4, ew] at R5
    have R6 := R2.of s3 R5
    unfold tYes; dsimp only
    rw [if_pos rfl]
    refine ⟨by simp, fun q hq => ?_⟩
    have R7 := R6.layM hq (Top.lst (K := X.K) (F := F3) (vs := []) (ds := []) .nil)
    have hgq := gAt_free R6 hq
    obtain ⟨_, _, _, g3⟩ := R7.r.ofSide f2 hL hF0
    have hqD : q ≠ Dd := fun z => by
      have := R6.r.keep Dd (.lst (qs.map V.ref)) upd_same hL
      rw [z, this] at hq
      cases hq
    have g4 : H3 Dd = some (.lst (qs.map V.ref)) := by rw [upd_ne (Ne.symm hqD)] at g3; exact g3
    refine ⟨qs.map V.ref, g3, by rw [List.length_map]; omega, F3, _, qs ++ [q], (q, DS.D.lst []) :: g2, s2.trans s3, ?_, .inr rfl, by rw [List.length_append, hql]; rfl, ?_, ?_⟩
    · rw [show qs.map V.ref ++ [V.ref q] = (qs ++ [q]).map V.ref by rw [List.map_append]; rfl]
      exact ⟨R7.r.sideSet f2 hL hF0 (by intro _ z; cases z), R7.m.sideSet⟩
    · rw [List.nodup_append]
      refine ⟨hnd, by simp, fun b hb c hc z => ?_⟩
      rw [List.mem_singleton.mp hc] at z
      have := hkid b hb
      rw [z, hgq] at this
      cases this
    · intro b hb
      rcases List.mem_append.mp hb with z | z
      · rw [gAt_ne (fun y => by have := hkid b z; rw [← y, hgq] at this; cases this)]
        exact hkid b z
      · rw [List.mem_singleton.mp z]
        exact gAt_same
  · have e : i = items.length := by omega
    subst e
    obtain ⟨R3, g1, g2', g3⟩ := R2.r.ofSide f2 hL hF0
    refine .inl ⟨it.stop _ σ a2 F2 H' s2 R2.r, ?_⟩
    have R4 := Rel.keepNo R1.r s2 R3 vs
    have hdq : ∀ q ∈ qs, Dd ≠ q := fun q hq z => by
      obtain ⟨_, k2, _⟩ := R2.m q _ (hkid q hq)
      have k2 : upd E.H Dd _ q = none := k2
      rw [← z, upd_same] at k2
      cases k2
    have M : MemOk X.K E F2 H' σ (keepNo a1 vs a2) ((Dd, .lst (qs.map DS.D.adr)) :: g2) := by
      have own : ∀ q, Owned σ (keepNo a1 vs a2) q → Owned σ a2 q := fun q ⟨j, av, h1, h2, h3⟩ => ⟨j, av, keepNo_own vs j av h1 h2, h2, h3⟩
      intro q d e
      by_cases hq : Dd = q
      · subst hq
        rw [gAt_same] at e
        cases e
        refine ⟨g1, f2, fun z => g2' (own _ z), _, g3, .lst ?_⟩
        clear hkid hdq hnd hql R2 g3
        induction qs with
        | nil => exact .nil
        | cons q qs ih => exact .cons (.adr q) (ih)
      · rw [gAt_ne hq] at e
        obtain ⟨k1, k2, k3, u, hu, t⟩ := R2.m q d e
        have k2 : upd E.H Dd _ q = none := k2
        rw [upd_ne (Ne.symm hq)] at k2
        exact ⟨k1, k2, fun z => k3 (own _ z), u, hu, t⟩
    have R5 : RelG X.K E F2 H' σ (keepNo a1 vs a2) ((Dd, .lst (qs.map DS.D.adr)) :: g2) := ⟨R4, M⟩
    have ek : keepNo a1 vs a2 = keepNo a1 vs (wipeA a1 vs) := by
      have kw := keep_wipe (a1 := a1) (a := a1) (vs := vs) (ws := vs) fun w hw => hw
      rcases ha2 with rfl | rfl
      · exact kw.symm
      · rfl
    rw [ek] at R5
    refine l.nx _ F2 H' _ _ (e1.trans s2) (R5.setDat (.adr Dd)) (hend _ Dd (qs.map fun q => (.non, q, [])) ⟨?_, ?_, ?_, ?_⟩ ?_)
    · rw [gAt_same, List.map_map]; rfl
    · intro e he
      obtain ⟨q, hq, rfl⟩ := List.mem_map.mp he
      show gAt _ q = _
      rw [gAt_ne (hdq q hq)]
      exact hkid q hq
    · rw [List.map_map]
      show (qs.map fun q => q).Nodup
      rw [List.map_id']
      exact hnd
    · intro e he
      obtain ⟨q, hq, rfl⟩ := List.mem_map.mp he
      exact Ne.symm (hdq q hq)
    · rw [List.map_map, List.eq_replicate_iff]
      refine ⟨by rw [List.length_map, hql], fun b hb => ?_⟩
      obtain ⟨q, _, rfl⟩ := List.mem_map.mp hb
      rfl
end
section
variable {X : Cx} {W : L2.St → XK} {e b o : Expr} {pos : Pos} {ta tb : TE} {w wb : WE}
/-- x = y[e], y a list of the memory that holds such -/
def wmSetAt (j i : Nat) (wb : WE) : WM := fun g D a => onAdr a[i]? fun root => wb a (fun r a1 => onI (con a1 r) fun k => onLs (gAt g root) fun xs => onO (atI xs k) fun d => match d with
  | .adr q => D.nx g (a1.set j (some ⟨.no, .adr q⟩))
  | _ => False) D.ex
theorem sm_setat {i j : Nat} {x : Str} {pos' sp : Pos} (hN : X.N.Nodup) (hj : X.N[j]? = some x) (hx : Loc X.env.scope x) (ho : PE X o (tVar i)) (hb : SE X W b tb wb) (hp : PlainIx b)
    (hs : swapsWith (.Subscript o b sp) (some (.Name x pos')) pos.line X.env = pure false := by rfl) (hf : X.fn x = true ∨ X.env.scope.names.lookup x = some .local := by first | exact .inl rfl | exact .inr rfl | assumption) :
    SM X W (.Assign [.Name x pos'] (.Subscript o b sp) pos) (tAsg (tOp (rIx X.K) (tVar i) tb) (gName j)) (wmSetAt j i wb) := by
  refine ⟨ps_set hN hj hx (pe_ix ix_seq ho hb.1 hp) hs hf, fun E F H σ a g D DA R hw l => ?_⟩
  obtain ⟨root, hr, hw⟩ := onAdr_iff.mp hw
  refine ⟨.ref root, slot_adr R.r hr, hb.2 (E.mem H g) F H σ a _ _ _ R.to hw (fun u r F' H' a' e R' rp q => ?_) (lx_mem R (l.ex σ))⟩
  obtain ⟨k, hk, q⟩ := onI_iff.mp q
  have R2 := R.of e R'
  obtain ⟨xs, hx, q⟩ := onLs_iff.mp q
  obtain ⟨d, hat, q⟩ := onO_iff.mp q
  split at q
  · rename_i c
    obtain ⟨_, _, _, ob, ho, tt⟩ := R2.m root _ hx
    obtain ⟨vs, rfl, rr⟩ := top_lst tt
    obtain ⟨v, hv, rv⟩ := rr.atI hat
    cases rv
    have hu : u = .int k := (rd_of R' rp hk).int
    exact .inl ⟨root, vs, k, .ref c, rfl, hu, .of ho, hv, l.nx _ F' _ _ _ e (R2.setDat (.adr c)) q⟩
  · exact q.elim
/-- y.extend(e), y a list of the memory -/
def wmExt (i : Nat) (w : WE) : WM := fun g D a => onAdr a[i]? fun q => onLs (gAt g q) fun _ => w a (fun r a1 => onLst (con a1 r) fun ys => onLs (gAt g q) fun xs => xs.length + ys.length ≤ sizeLine ∧ D.nx ((q, .lst (xs ++ ys)) :: g) a1) D.ex
theorem sm_ext {i : Nat} {apos cpos : Pos} (ho : PE X o (tVar i)) (h : SE X W e ta w) (hbase : attributeBase o "extend" X.env (eval o X.env) = eval o X.env := by rfl)
    (hfew : ((backTo cpos (starEach [e] X.env)).all (fun x => !x.1) && (backToKw cpos (keywordEach [] X.env)).all (fun x => x.1.isSome) && decide (([e] : List Expr).length + ([] : List Keyword).length + (if ([] : List Keyword).isEmpty then 0 else 1) < 30)) = true := by rfl)
    (hline : (apos.endLine == cpos.line) = true := by rfl) (hst : starEach [e] X.env = (false, eval e X.env) :: starEach [] X.env := by rfl) (hplain : (backTo cpos (starEach [] X.env)).any (·.1) = false := by rfl)
    (hs : swapsWith (.Call (.Attribute o "extend" apos) [e] [] cpos) none pos.line X.env = pure false := by rfl) :
    SM X W (.Expr (.Call (.Attribute o "extend" apos) [e] [] cpos) pos) (tDrop (tBM X.K "list" rExtend (tVar i) (tCons ta tNil))) (wmExt i w) := by
  refine ⟨ps_expr (pe_bm PySem.F.plainAttrs_list PySem.F.slot_list_extend PySem.F.type_list_extend mt_extend ho (pa_cons h.1 pa_nil hst) hbase hfew hline hst hplain) hs, fun E F H σ a g D DA R hw l => ?_⟩
  obtain ⟨q, ha, hw⟩ := onAdr_iff.mp hw
  obtain ⟨xs0, hx0, hw⟩ := onLs_iff.mp hw
  obtain ⟨_, _, _, o0, ho0, t0⟩ := R.m q _ hx0
  obtain ⟨vs0, rfl, _⟩ := top_lst t0
  refine ⟨.ref q, slot_adr R.r ha, .inl ⟨rfl, vs0, .of ho0⟩, h.2 (E.mem H g) F H σ a _ _ _ R.to hw (fun u r F' H' a' e R' rp hq => ?_) (lx_mem R (l.ex σ))⟩
  obtain ⟨ys, c, hq⟩ := onLst_iff.mp hq
  obtain ⟨xs, hx, hz, hk⟩ := onLs_iff.mp hq
  obtain ⟨b, us, rfl, hb, rb⟩ := (rd_of R' rp c).lst R'.ext
  have R2 := R.of e R'
  obtain ⟨_, _, _, o2, ho2, t2⟩ := R2.m q _ hx
  obtain ⟨vs, rfl, r2⟩ := top_lst t2
  exact ⟨q, b, vs, us, rfl, rfl, ho2, hb, by rw [r2.length, rb.length]; exact hz, l.nx _ F' _ _ _ e (R2.writeM hx (.lst (r2.append rb))) hk⟩
/-- from here on what slot i owns is data -/
def wmFzS (i : Nat) (w : WM) : WM := fun g D a => fz (.slot i) a fun _ a' => w g D a'
theorem sms_fzS (i : Nat) {st : List Stmt} {t : TS} {w : WM} (h : SMs X W st t w) : SMs X W st t (wmFzS i w) := by
  refine ⟨h.1, fun E F H σ a g D DA R hw l => ?_⟩
  have hw : fz (.slot i) a fun _ a' => w g DA a' := hw
  simp only [fz] at hw
  split at hw
  · exact h.2 E F H σ _ g D DA R hw l
  · rename_i c e
    obtain ⟨F2, s, R2, _⟩ := R.to.giveUp e
    exact h.2 E F2 H σ _ g D DA (R.of s R2) hw (l.to s)
  · exact hw.elim
end
end DS

namespace DS
open PySem PySem.Spec PyProof.Rows L2
/-! ### int of a text -/
section
variable {K : PySem.W.Frag}
def dIntS : DCall := fun ds k => match ds with
  | [.str z] => ∃ n, PySem.intText? z = some n ∧ z.length ≤ 640 ∧ k (.dat (.int n))
  | _ => False
theorem dIntS_ok : CallS K (fun xs H Q => ∃ a n, xs = [.str a] ∧ PySem.intText? a = some n ∧ a.length ≤ 640 ∧ Q (.int n) H) dIntS := by
  intro E F H σ a vs ds Q k R h ho l
  unfold dIntS at ho
  split at ho
  · obtain ⟨n, h1, h2, hk⟩ := ho
    cases h with
    | cons h t =>
      cases t
      obtain rfl := h.str
      exact ⟨_, n, rfl, h1, h2, l _ (.dat _) F H (Same.refl F) R (Rep.int _) hk⟩
  · exact ho.elim
end
/-! ### a def of one return: a + x.replace(y, z) + b -/
section
variable {P : Program} {w : World} {K : PySem.W.Frag} {mg : Str → Option Value} {base : Heap}
def quoteSpec (a b y z : Str) : Spec := fun as Q _ => ∃ t : Str, as = [⟨.no, .str t⟩] ∧ t.length ≤ 100000 ∧ Q ⟨.no, .str (a ++ Txt.replace t y z ++ b)⟩ as
theorem ok_quote {x qual : Str} {st : Stmt} {f : Addr} {fd : FuncData} {k : Nat} {a b y z : Str} {ja jb j1 j2 : Nat} {ca cb c1 c2 pn ap cp pi po ps : Pos} (F : Fun K x qual st f fd) (S : FnScope ["_law_text_here"] ["_law_text_here"] (defScope st))
    (hnc : ∀ y ∈ (defScope st).names, y.2 ≠ .cell)
    (hst : defBody st = [.Return (some (.BinOp (.BinOp (.Constant (.str a) ja ca) .Add (.Call (.Attribute (.Name "_law_text_here" pn) "replace" ap) [.Constant (.str y) j1 c1, .Constant (.str z) j2 c2] [] cp) pi) .Add (.Constant (.str b) jb cb) po)) ps])
    (hyz : (y == z) = false) (hline : (ap.endLine == cp.line) = true) (ha : a.length ≤ 10) (hb : b.length ≤ 10) (hz : z.length ≤ 10)
    (hbase : ∀ env : Env, attributeBase (.Name "_law_text_here" pn) "replace" env (eval (.Name "_law_text_here" pn) env) = eval (.Name "_law_text_here" pn) env) : FnOk P w K mg base CX0 (k + 1) f fd ["_law_text_here"] (spOf K (quoteSpec a b y z)) := by
  obtain ⟨oc, od, kV, doc, pm, an, cdv, ct, osl, rfl, lk, hcd⟩ := F.ex
  refine fn_ofT lk hcd S hnc (by simp) (fun vs H Q E ⟨F0, as, Q0, Qe0, A, h, _⟩ => ?_) (fun A outer s H vs Q E hr h => ?_)
  · obtain ⟨_, rfl, _⟩ := h
    exact A.len
  obtain ⟨F0, as, Q0, Qe0, AO, hs, hq, hx⟩ := h
  obtain ⟨t, rfl, ht, hqs⟩ := hs
  have hvis : Vis (defScope st) "_law_text_here" := by
    rcases S.par "_law_text_here" (List.mem_singleton.mpr rfl) with q | q
    · exact .inl q
    · exact absurd rfl (hnc _ (PySem.mem_of_lookup q))
  rw [hst]
  refine ⟨_, CwR.psst_one (CwR.pst_ret (CwR.pet_op op_add_str (CwR.pet_op op_add_str (CwR.PET.of pe_str) (CwR.pet_replC (pv 0 (hv := hvis)) hyz (by rfl) (hbase _) hline)) (CwR.PET.of pe_str))), ?_⟩
  have R := entry_rel AO (N := ["_law_text_here"]) (Nat.le_refl _)
  obtain ⟨v, hv, rv⟩ := R.sl 0 ⟨.no, .str t⟩ rfl
  cases rv
  have hrl := TK.replace_len t y z
  have h1 : (t.length + 1) * z.length ≤ 100001 * 10 := Nat.mul_le_mul (by omega) hz
  have hl1 : (a ++ Txt.replace t y z).length = a.length + (Txt.replace t y z).length := Str.length_append _ _
  refine ⟨_, hv, t, rfl, by omega, _, _, rfl, rfl, by rw [sizeLine_eq]; omega, _, _, rfl, rfl, by rw [sizeLine_eq, hl1]; omega, ?_⟩
  exact hq _ _ hqs _ F0 H (post_of AO R rfl) (Rep.str _)
end
/-! ### bodies that begin with a token out: replace of written texts -/
section
variable {X : Cx} {W : L2.St → XK} {st : Stmt} {rest s1 s2 : List Stmt} {t u : TS} {w1 w2 : WS} {c e f o : Expr} {pos p : Pos} {te tf ta : TE} {ua : TT} {we wf wo : WE} {wt : WT}
def SET (X : Cx) (W : L2.St → XK) (e : Expr) (t : TE) (w : WE) : Prop := PET X e t ∧ ∀ E F H σ a Q q qe, Rel X.K E F H σ a → w a q qe → Ln X.K E F σ q Q → Lx X.K E F σ qe (W σ) → t σ H Q
def SST (X : Cx) (W : L2.St → XK) (st : Stmt) (t : TS) (w : WS) : Prop := PST X st t ∧ ∀ E F H σ a D DA, Rel X.K E F H σ a → w DA a → Lk X.K E F D DA W → t D σ H
def SSsT (X : Cx) (W : L2.St → XK) (st : List Stmt) (t : TS) (w : WS) : Prop := PSsT X st t ∧ ∀ E F H σ a D DA, Rel X.K E F H σ a → w DA a → Lk X.K E F D DA W → t D σ H
theorem set_of (h : SE X W e te we) : SET X W e te we := ⟨CwR.PET.of h.1, h.2⟩
theorem sst_of (h : SS X W st t w1) : SST X W st t w1 := ⟨PST.of h.1, h.2⟩
theorem ssst_of (h : SSs X W rest t w1) : SSsT X W rest t w1 := ⟨PSsT.of h.1, h.2⟩
theorem ssst_nil : SSsT X W [] tNext wNext := ssst_of sss_nil
theorem ssst_cons (h1 : SST X W st t w1) (h2 : SSsT X W rest u w2) : SSsT X W (st :: rest) (tSeq t u) (wSeq w1 w2) := by
  refine ⟨psst_cons h1.1 h2.1, fun E F H σ a D DA R h l => h1.2 E F H σ a _ _ R h ⟨fun σ' F' H' a' e R' q => ?_, l.bk, l.ct, l.rt, l.ex⟩⟩
  exact h2.2 E F' H' σ' a' D DA R' q (l.to e)
theorem ssst_one (h1 : SST X W st t w1) : SSsT X W [st] t w1 := ⟨CwR.psst_one h1.1, h1.2⟩
theorem sst_if (hc : ST X W c ua wt) (ha : SSsT X W s1 t w1) (hb : SSsT X W s2 u w2) : SST X W (.If c s1 s2 pos) (tIfS ua t u) (wIf wt w1 w2) := by
  refine ⟨CwR.pst_if hc.1 ha.1 hb.1, fun E F H σ a D DA R hw l => hc.2 E F H σ a _ _ _ R hw (fun k F' H' a' e R' q => ?_) (l.ex σ)⟩
  cases k with
  | true => exact ha.2 E F' H' σ a' D DA R' (br_tt q rfl) (l.to e)
  | false => exact hb.2 E F' H' σ a' D DA R' (br_ff q rfl) (l.to e)
theorem set_op {ob : Operator} {r : R2} {op : D → D → (Res → Prop) → Prop} (ho : OpR X (binaryOp ob) r) (hs : OpS X.K r op) (h1 : SET X W e te we) (h2 : SET X W f tf wf) : SET X W (.BinOp e ob f pos) (tOp r te tf) (wBin op we wf) :=
  ⟨CwR.pet_op ho h1.1 h2.1, bin_ok hs h1.2 h2.2⟩
def wReplC (w : WE) (y z : Str) : WE := fun a q qe => w a (fun r a1 => onO (con a1 r) fun d => match d with
  | .str x => x.length + (x.length + 1) * z.length ≤ 16777216 ∧ q (.dat (.str (Txt.replace x y z))) a1
  | _ => False) qe
theorem set_repl {y z : Str} {j k : Nat} {c0 c1 apos : Pos} (h : SE X W o te we) (hyz : (y == z) = false := by decide)
    (hst : starEach [.Constant (.str y) j c0, .Constant (.str z) k c1] X.env = [(false, eval (.Constant (.str y) j c0) X.env), (false, eval (.Constant (.str z) k c1) X.env)] := by rfl)
    (hbase : attributeBase o "replace" X.env (eval o X.env) = eval o X.env := by rfl) (hline : (apos.endLine == pos.line) = true := by rfl) :
    SET X W (.Call (.Attribute o "replace" apos) [.Constant (.str y) j c0, .Constant (.str z) k c1] [] pos) (CwR.tReplC te y z) (wReplC we y z) := by
  refine ⟨CwR.pet_replC h.1 hyz hst hbase hline, fun E F H σ a Q q qe R hw l lx => h.2 E F H σ a _ _ _ R hw (fun v r F' H' a' e R' rp hq => ?_) lx⟩
  obtain ⟨d, hd, hq⟩ := onO_iff.mp hq
  split at hq
  · obtain rfl := (rd_of R' rp hd).str
    exact ⟨_, rfl, hq.1, l _ (.dat _) F' H' a' e R' (Rep.str _) hq.2⟩
  · exact hq.elim
theorem sst_set {i : Nat} {x : Str} {pos' : Pos} (hN : X.N.Nodup) (hi : X.N[i]? = some x) (hx : Loc X.env.scope x) (h : SET X W e te we) (hs : swapsWith e (some (.Name x pos')) pos.line X.env = pure false := by rfl) (hf : X.fn x = true ∨ X.env.scope.names.lookup x = some .local := by first | exact .inl rfl | exact .inr rfl | assumption) :
    SST X W (.Assign [.Name x pos'] e pos) (tAsg te (gName i)) (wSet i we) := by
  refine ⟨fun pins s σ H D h0 I hq => ?_, fun E F H σ a D DA R hw l => h.2 E F H σ a _ _ _ R hw (fun v r F' H' a' e R' rp q => ?_) (l.ex σ)⟩
  · refine wpAny_Assign_Name (thn (h.1 pins s σ H _ h0 I hq) fun v s1 ⟨y, H1, I1, r1, q1⟩ => ?_) hs
    exact store_ok I1 hN hi hx r1 (fun s2 I2 => ⟨_, H1, I2, q1⟩) hf
  · obtain ⟨F2, a2, s, R2, hk⟩ := sto_ok R' rp q
    exact l.nx _ F2 H' a2 (e.trans s) R2 hk
theorem PSsT.nox {body : List Stmt} (h : PSsT X.nox body t) : PSsT X body t := fun pins s σ H D h0 I hw =>
  wpAny_mono (h pins s σ H D h0 (I.wish _) hw) (fun _ _ q => q.unwish) fun _ _ z => False.elim z
end
section
variable {P : Program} {w : World} {K : PySem.W.Frag} {mg : Str → Option Value} {base : Heap}
theorem ok_defT {x qual : Str} {st : Stmt} {f : Addr} {fd : FuncData} {N ps : List Str} {k : Nat} {spec : Spec} {wb : WS} (F : Fun K x qual st f fd) (S : FnScope N ps (defScope st)) (har : ∀ as Q Qe, spec as Q Qe → as.length = ps.length)
    (hN : ps.length ≤ N.length) (hnc : ∀ y ∈ (defScope st).names, y.2 ≠ .cell) (hps : 1 ≤ ps.length)
    (hbody : ∀ (cdv : Value) (A : Around) (outer : List Env) (s : Shared) (H : Hp) (E : XK), Room k (A.deeper (envOfC qual (defScope st) s.heap.objs.size f cdv)) →
      ∃ t, SSsT (cxOf CX0 P w K mg base N qual (defScope st) f cdv A outer s H E).nox W0 (defBody st) t wb)
    (pure : ∀ as Q Qe, spec as Q Qe → wb (ends0 as Q) (initA N.length as)) : FnOk P w K mg base CX0 (k + 1) f fd ps (spOf K spec) := by
  obtain ⟨oc, od, kV, doc, pm, an, cdv, ct, osl, rfl, lk, hcd⟩ := F.ex
  refine fn_ofT lk hcd S hnc hps (fun vs H Q E ⟨F0, as, Q0, Qe0, A, h, _⟩ => A.len.trans (har as _ _ h)) (fun A outer s H vs Q E hr h => ?_)
  obtain ⟨F0, as, Q0, Qe0, AO, hs, hq, hx⟩ := h
  obtain ⟨t, hb⟩ := hbody cdv A outer s H E hr
  refine ⟨t, PSsT.nox hb.1, hb.2 ⟨F0, H, LentAt vs as, vs⟩ F0 H _ _ _ _ (entry_rel AO (by rw [har as _ _ hs]; exact hN)) (pure as Q0 Qe0 hs) ⟨?_, ?_, ?_, ?_, ?_⟩⟩
  · intro σ F' H' a e R h
    obtain ⟨as', ho, h⟩ := onO_iff.mp h
    exact hq _ as' h .non F' H' (post_of AO R ho) Rep.non
  · rintro σ F' H' a e R h
    exact h
  · rintro σ F' H' a e R h
    exact h
  · intro σ F' H' a v r e R rr h
    obtain ⟨as', ho, h⟩ := onO_iff.mp h
    exact hq r as' h v F' H' (post_of AO R ho) rr
  · rintro σ x a cls dx F' H' e R xr h
    exact h
end
end DS

namespace DS
open PySem PySem.Spec PyProof.Rows L2
/-! ### x = {k: [] for y in ys}, all remembered -/
section
variable {X : Cx} {W : L2.St → XK} {pos : Pos}
theorem putD_last {κ α : Type} [DecidableEq κ] {kvs : List (κ × α)} {k : κ} {v : α} (h : k ∉ kvs.map (·.1)) : putD kvs k v = kvs ++ [(k, v)] := by
  unfold putD
  rw [if_neg]
  intro z
  obtain ⟨e, he, hk⟩ := List.any_eq_true.mp z
  exact h (List.mem_map.mpr ⟨e, he, of_decide_eq_true hk⟩)
def wmDcNL (j : Nat) (wi : WI) (vs : List Nat) (wg : WG) (wk : WE) : WM := fun g D a => wi a (fun items a1 => items.length < sizeLine ∧ ∃ ks : List L2.Key, ks.length = items.length ∧ ks.Nodup ∧
  (∀ (i : Nat) (d : DS.D), items[i]? = some d → wg d (wipeA a1 vs) fun a3 => wk a3 (fun r a4 => fz r a4 fun y a5 => keyD y = ks[i]? ∧ wipeA a5 vs = wipeA a1 vs) (fun _ _ => False)) ∧
  ∀ g2 p es, TabG DS.D.dK g2 p es → tabOf es = ks.map (fun k => (k, [])) → D.nx g2 ((keepNo a1 vs (wipeA a1 vs)).set j (some ⟨.no, .adr p⟩))) D.ex
theorem dcNL_sem {i : Nat} {tg iter : Expr} {own : List (Str × Nat)} {ti : TI} {wi : WI} {wg : WG} {wk : WE} {sl : List Nat} (hi : SI X W tg iter ti wi) (hsl : ∀ j ∈ sl, j ∈ own.map (·.2)) :
    ∀ E F H σ a g D DA, RelG X.K E F H σ a g → wmDcNL i wi (own.map (·.2)) wg wk g DA a → LkG X.K E F D DA W → (tAsg (tDG (.dK []) ti (gG X.K wg sl) tYes (tE X.K W0 wk) (tLst tNil) (own.map (·.2))) (gName i)) D σ H := by
  intro E F H σ a g D DA R hw l
  generalize own.map (·.2) = vs at *
  refine hi.2 (E.mem H g) F H σ a _ _ _ R.to hw (fun J items F1 H1 a1 e1 R1 it hq => ?_) (lx_mem R (l.ex σ))
  obtain ⟨hz, ks, hkl, hknd, hbind, hend⟩ := hq
  have R1 := R.of e1 R1
  intro Dd hD
  obtain ⟨f1, f2, f3⟩ := R1.r.fresh hD
  have hL : ¬ E.L Dd := fun z => R1.r.lt Dd z f2
  have hF0 : E.F Dd = none := R1.r.f0.free f1
  have gD := gAt_free R1 hD
  have R1' := R1.lay (.dK []) hD
  refine ⟨fun i m H' => m = items.length - i ∧ i ≤ items.length ∧ ∃ F2 a2 o qs g2, Same F1 F2 ∧ RelG X.K (E.side Dd o) F2 H' σ a2 g2 ∧ Top X.K F2 o (.dK ((ks.take i).zip (qs.map DS.D.adr))) ∧ (a2 = a1 ∨ a2 = wipeA a1 vs) ∧ qs.length = i ∧ qs.Nodup ∧ ∀ q ∈ qs, gAt g2 q = some (.lst []),
    ⟨_, rfl, Nat.zero_le _, F1, a1, .dK [], [], g, Same.refl F1, ⟨R1'.r.toSide f1 f2 f3 upd_same, fun q d e => ?_⟩, .dK .nil, .inl rfl, rfl, List.nodup_nil, fun q h => by cases h⟩, ?_⟩
  · obtain ⟨k1, k2, k3, u, hu, t⟩ := R1'.m q d e
    have hne : q ≠ Dd := fun z => by rw [z, gD] at e; cases e
    exact ⟨k1, by show upd E.H Dd _ q = none; rw [upd_ne hne]; exact k2, k3, u, hu, t⟩
  rintro i m H' ⟨rfl, hi', F2, a2, o, qs, g2, s2, R2, top, ha2, hql, hnd, hkid⟩
  have ew : wipeA a2 vs = wipeA a1 vs := by
    rcases ha2 with rfl | rfl
    · rfl
    · exact wipe_wipe fun w hw => hw
  by_cases hlt : i < items.length
  · refine .inr ⟨it.go i _ σ a2 F2 H' s2 R2.r hlt, fun H3 => ∃ F3 a3 o qs g3, Same F1 F3 ∧ RelG X.K (E.side Dd o) F3 H3 σ a3 g3 ∧ Top X.K F3 o (.dK ((ks.take (i + 1)).zip (qs.map DS.D.adr))) ∧ (a3 = a1 ∨ a3 = wipeA a1 vs) ∧ qs.length = i + 1 ∧ qs.Nodup ∧ ∀ q ∈ qs, gAt g3 q = some (.lst []),
      fun H3 ⟨F3, a3, o, qs, g3, s3, R3, h3⟩ => ⟨items.length - (i + 1), by omega, rfl, hlt, F3, a3, o, qs, g3, s3, R3, h3⟩, fun x H3 y => ?_⟩
    obtain ⟨F3, d, s3, R3, hd, rp⟩ := it.yld i ((E.side Dd o).mem H' g2) σ a2 F2 H' x H3 s2 R2.to hlt y
    have hb := hbind i d hd
    rw [← ew] at hb
    refine ⟨_, F3, wipeA a2 vs, d, _, R3.wipe vs, rp, hb, fun σ4 a4 o4 R4 hq4 => ⟨wipe_only o4 hsl, ?_⟩⟩
    unfold tYes
    dsimp only
    rw [if_pos rfl]
    refine ⟨_, F3, a4, _, _, R4, hq4, fun vy rk F6 H6 a6 e6 R6 rp6 q6 => ?_, fun x a c dx F5 H5 _ _ _ z => z⟩
    obtain ⟨F7, a7, yd, s7, R7, rp7, hkey, hwp⟩ := fz_ok R6 rp6 q6
    have R5 : Rel X.K ((E.side Dd o).mem H' g2) F7 H6 σ (wipeA a7 vs) := by
      refine R7.less (by rw [wipeA_length, R7.len, o4.1, L2.wipe_length]) fun j av e => ?_
      obtain ⟨h1, h2⟩ := wipeA_some e
      refine ⟨h1, ?_⟩
      rw [o4.2 j fun z => h2 (hsl j z), L2.wipe_out h2]
    rw [hwp, ew] at R5
    have sA : Same F2 F7 := (s3.trans e6).trans s7
    have R8 := R2.of sA R5
    refine ⟨by simp, fun q hq => ?_⟩
    have R9 := R8.layM hq (Top.lst (K := X.K) (F := F7) (vs := []) (ds := []) .nil)
    have hgq := gAt_free R8 hq
    obtain ⟨_, _, _, g3⟩ := R9.r.ofSide f2 hL hF0 (top_nt top)
    obtain ⟨key, hkey2⟩ : ∃ key, ks[i]? = some key := ⟨_, List.getElem?_eq_getElem (by omega)⟩
    rw [hkey2] at hkey
    have hnk : key ∉ ((ks.take i).zip (qs.map DS.D.adr)).map (·.1) := fun z => by
      obtain ⟨e, he, hek⟩ := List.mem_map.mp z
      obtain ⟨x1, x2⟩ := e
      have hm := (List.of_mem_zip he).1
      obtain ⟨n, hn⟩ := List.mem_iff_getElem?.mp hm
      have hn2 := (List.getElem?_eq_some_iff.mp hn).1
      rw [List.length_take] at hn2
      rw [List.getElem?_take_of_lt (by omega)] at hn
      have hek : x1 = key := hek
      rw [hek, ← hkey2] at hn
      have := (List.getElem?_inj (by omega) hknd).mp hn
      omega
    have hzl : ((ks.take i).zip (qs.map DS.D.adr)).length = i := by rw [List.length_zip, List.length_take, List.length_map]; omega
    have put : putS (.dK ((ks.take i).zip (qs.map DS.D.adr))) yd (.adr q) fun acc' => acc' = .dK ((ks.take (i + 1)).zip ((qs ++ [q]).map DS.D.adr)) := by
      unfold putS
      refine onO_of hkey ⟨by rw [hzl]; omega, ?_⟩
      rw [putD_last hnk, List.take_add_one, hkey2, Option.toList_some, List.map_append, List.zip_append (by rw [List.length_take, List.length_map]; omega)]
      rfl
    obtain ⟨o', acc', dput, t', rfl⟩ := dput_of R9.r.ext g3 (top.mono sA) (rp7.mono (Same.refl F7)) (Rep.adr q) put
    refine ⟨_, dput, F7, _, o', qs ++ [q], (q, DS.D.lst []) :: g2, s2.trans sA, ⟨R9.r.sideSet f2 hL hF0 (top_nt top), R9.m.sideSet⟩, t', .inr rfl, by rw [List.length_append, hql]; rfl, ?_, ?_⟩
    · rw [List.nodup_append]
      refine ⟨hnd, by simp, fun b hb c hc z => ?_⟩
      rw [List.mem_singleton.mp hc] at z
      have := hkid b hb
      rw [z, hgq] at this
      cases this
    · intro b hb
      rcases List.mem_append.mp hb with z | z
      · rw [gAt_ne (fun y => by have := hkid b z; rw [← y, hgq] at this; cases this)]
        exact hkid b z
      · rw [List.mem_singleton.mp z]
        exact gAt_same
  · have e : i = items.length := by omega
    subst e
    rw [List.take_of_length_le (by omega)] at top
    obtain ⟨R3, g1, g2', g3⟩ := R2.r.ofSide f2 hL hF0 (top_nt top)
    refine .inl ⟨it.stop _ σ a2 F2 H' s2 R2.r, ?_⟩
    have R4 := Rel.keepNo R1.r s2 R3 vs
    have hdq : ∀ q ∈ qs, Dd ≠ q := fun q hq z => by
      obtain ⟨_, k2, _⟩ := R2.m q _ (hkid q hq)
      have k2 : upd E.H Dd _ q = none := k2
      rw [← z, upd_same] at k2
      cases k2
    have M : MemOk X.K E F2 H' σ (keepNo a1 vs a2) ((Dd, .dK (ks.zip (qs.map DS.D.adr))) :: g2) := by
      have own : ∀ q, Owned σ (keepNo a1 vs a2) q → Owned σ a2 q := fun q ⟨j, av, h1, h2, h3⟩ => ⟨j, av, keepNo_own vs j av h1 h2, h2, h3⟩
      intro q d e
      by_cases hq : Dd = q
      · subst hq
        rw [gAt_same] at e
        cases e
        exact ⟨g1, f2, fun z => g2' (own _ z), _, g3, top⟩
      · rw [gAt_ne hq] at e
        obtain ⟨k1, k2, k3, u, hu, t⟩ := R2.m q d e
        have k2 : upd E.H Dd _ q = none := k2
        rw [upd_ne (Ne.symm hq)] at k2
        exact ⟨k1, k2, fun z => k3 (own _ z), u, hu, t⟩
    have R5 : RelG X.K E F2 H' σ (keepNo a1 vs a2) ((Dd, .dK (ks.zip (qs.map DS.D.adr))) :: g2) := ⟨R4, M⟩
    have ek : keepNo a1 vs a2 = keepNo a1 vs (wipeA a1 vs) := by
      have kw := keep_wipe (a1 := a1) (a := a1) (vs := vs) (ws := vs) fun w hw => hw
      rcases ha2 with rfl | rfl
      · exact kw.symm
      · rfl
    rw [ek] at R5
    have hlq : ks.length = qs.length := by omega
    refine l.nx _ F2 H' _ _ (e1.trans s2) (R5.setDat (.adr Dd)) (hend _ Dd ((ks.zip qs).map fun e => (e.1, e.2, [])) ⟨?_, ?_, ?_, ?_, ?_⟩ ?_)
    · rw [gAt_same, List.map_map]
      congr 2
      rw [List.zip_map_right]
      rfl
    · intro e he
      obtain ⟨⟨k, q⟩, hq, rfl⟩ := List.mem_map.mp he
      have hq := (List.of_mem_zip hq).2
      show gAt _ q = _
      rw [gAt_ne (hdq q hq)]
      exact hkid q hq
    · rw [List.map_map]
      show ((ks.zip qs).map fun e => e.2).Nodup
      rw [show ((ks.zip qs).map fun e => e.2) = qs from List.map_snd_zip (by omega)]
      exact hnd
    · intro e he
      obtain ⟨⟨k, q⟩, hq, rfl⟩ := List.mem_map.mp he
      exact Ne.symm (hdq q (List.of_mem_zip hq).2)
    · rw [List.map_map]
      show ((ks.zip qs).map fun e => e.1).Nodup
      rw [show ((ks.zip qs).map fun e => e.1) = ks from List.map_fst_zip (by omega)]
      exact hknd
    · unfold tabOf
      rw [List.map_map]
      show ((ks.zip qs).map fun e => (e.1, ([] : List DS.D))) = _
      have : ((ks.zip qs).map fun e => e.1).map (fun k => (k, ([] : List DS.D))) = ks.map fun k => (k, []) := by
        rw [show ((ks.zip qs).map fun e => e.1) = ks from List.map_fst_zip (by omega)]
      rw [← this, List.map_map]
      rfl
theorem sm_setDcNL {i : Nat} {y : Str} {py p3 : Pos} {kx tg iter : Expr} {sc : Scope} {own : List (Str × Nat)} {pos spos : Pos} {ti : TI} {wi : WI} {wg : WG} {wk : WE} {sl : List Nat} (hu : X.A.units < cLine) (hc : X.calm = true) (hN : X.N.Nodup)
    (hy : X.N[i]? = some y) (hyl : X.env.scope.names.lookup y = some .local) (hsw : swapsWith (.DictComp kx (.List [] p3) [⟨tg, iter, [], 0⟩] sc pos) (some (.Name y py)) spos.line X.env = pure true) (hi : SI X W tg iter ti wi) (ok : BlkOk X.N X.env.scope sc own)
    (hg : InBlk X sc fun Y => ∃ g, SG Y tg g wg sl) (hsl : ∀ j ∈ sl, j ∈ own.map (·.2)) (hk : InBlk X sc fun Y => ∃ t, SE Y W0 kx t wk)
    (hs : ∀ x, foldedSetIterable iter X.env x = pure x := by intro _; rfl) :
    SM X W (.Assign [.Name y py] (.DictComp kx (.List [] p3) [⟨tg, iter, [], 0⟩] sc pos) spos) (tAsg (tDG (.dK []) ti (gG X.K wg sl) tYes (tE X.K W0 wk) (tLst tNil) (own.map (·.2))) (gName i)) (wmDcNL i wi (own.map (·.2)) wg wk) := by
  exact ⟨ps_setDg DEmp.k hu hc hN hy hyl hsw hi.1 ok (fun s H C cl fp => (hg s H C cl fp).elim fun _ h => h.own) (fun s H C cl fp => pts_nil) (fun s H C cl fp => (hk s H C cl fp).elim fun _ h => h.own) (fun s H C cl fp => pe_lst pa_nil) hs, dcNL_sem hi hsl⟩
/-- .. for a name that an inner block sees -/
theorem sm_setDcNLc {i : Nat} {y : Str} {py p3 : Pos} {kx tg iter : Expr} {sc : Scope} {own : List (Str × Nat)} {pos spos : Pos} {ti : TI} {wi : WI} {wg : WG} {wk : WE} {sl : List Nat} (hu : X.A.units < cLine) (hc : X.calm = true) (hN : X.N.Nodup)
    (hy : X.N[i]? = some y) (hx : Loc X.env.scope y) (hsw : swapsWith (.DictComp kx (.List [] p3) [⟨tg, iter, [], 0⟩] sc pos) (some (.Name y py)) spos.line X.env = pure false) (hi : SI X W tg iter ti wi) (ok : BlkOk X.N X.env.scope sc own)
    (hg : InBlk X sc fun Y => ∃ g, SG Y tg g wg sl) (hsl : ∀ j ∈ sl, j ∈ own.map (·.2)) (hk : InBlk X sc fun Y => ∃ t, SE Y W0 kx t wk)
    (hs : ∀ x, foldedSetIterable iter X.env x = pure x := by intro _; rfl) (hf : X.fn y = true ∨ X.env.scope.names.lookup y = some .local := by first | exact .inl rfl | exact .inr rfl | assumption) :
    SM X W (.Assign [.Name y py] (.DictComp kx (.List [] p3) [⟨tg, iter, [], 0⟩] sc pos) spos) (tAsg (tDG (.dK []) ti (gG X.K wg sl) tYes (tE X.K W0 wk) (tLst tNil) (own.map (·.2))) (gName i)) (wmDcNL i wi (own.map (·.2)) wg wk) := by
  exact ⟨ps_set hN hy hx (pe_dg DEmp.k hu hc hN hi.1 ok (fun s H C cl fp => (hg s H C cl fp).elim fun _ h => h.own) (fun s H C cl fp => pts_nil) (fun s H C cl fp => (hk s H C cl fp).elim fun _ h => h.own) (fun s H C cl fp => pe_lst pa_nil) hs) hsw hf, dcNL_sem hi hsl⟩

end
/-! ### x[y] of a remembered dict -/
section
variable {X : Cx} {W : L2.St → XK} {e b : Expr} {pos : Pos} {ta tb : TE} {wr : WQ}
def wqKx (j : Nat) (wr : WQ) : WQ := fun g a f => wr g a fun d => match d with
  | .adr p => match a[j]? with
    | some (some ⟨.no, y⟩) => onO (gAt g p) fun c => match c with
      | .dK kvs => onO (keyD y) fun k => onO (valD kvs k) f
      | _ => False
    | _ => False
  | _ => False
theorem sq_kx {j : Nat} (hu : X.A.units + 1 < cLine) (h : SQ X e ta wr) (hb : PE X b (tVar j)) (hs : NoSl b) : SQ X (.Subscript e b pos) (tDGet ta (tVar j)) (wqKx j wr) := by
  refine ⟨pe_dget hu h.1 hb hs, fun E F H σ a g Q f R hw k => h.2 E F H σ a g _ _ R hw fun v d rp hd => ?_⟩
  split at hd
  · rename_i p
    cases rp
    split at hd
    · rename_i y hy
      obtain ⟨u, hu2, ru⟩ := R.r.sl j _ hy
      obtain ⟨c, hc, hd⟩ := onO_iff.mp hd
      split at hd
      · rename_i kvs
        obtain ⟨key, hk, hd⟩ := onO_iff.mp hd
        obtain ⟨z, hz, hf⟩ := onO_iff.mp hd
        obtain ⟨_, _, _, o, ho, tt⟩ := R.m p _ hc
        cases tt with
        | dK r =>
          obtain rfl := key_rep ru hk
          obtain ⟨vv, h1, h2⟩ := (r.val key).1 z hz
          exact ⟨_, hu2, p, vv, rfl, by rw [← h1]; exact .k ho, k _ _ h2 hf⟩
      · exact hd.elim
    · exact hd.elim
  · exact hd.elim
/-- {x: c} -/
def wDLit1 (i : Nat) (c : Int) : WE := fun a q _ => match a[i]? with
  | some (some ⟨.no, d⟩) => onO (keyD d) fun k => q (.new (.dK [(k, .int c)])) a
  | _ => False
theorem se_dlit1 {i : Nat} {c : Int} {kx vx : Expr} (hk : PE X kx (tVar i)) (hv : PE X vx (tC (.int c))) : SE X W (.Dict [some kx] [vx] pos) (tDisp [(tVar i, tC (.int c))]) (wDLit1 i c) := by
  refine ⟨pe_disp (pps_cons hk hv pps_nil) rfl rfl (by simp) (by simp), fun E F H σ a Q q qe R hw l _ p hp => ?_⟩
  unfold wDLit1 at hw
  split at hw
  · rename_i d hd
    obtain ⟨k, hk, hq⟩ := onO_iff.mp hw
    obtain ⟨v, hv2, rv⟩ := R.sl i _ hd
    obtain rfl := key_rep rv hk
    obtain ⟨f1, f2, f3⟩ := R.fresh hp
    have eu : upd (upd H p (.dK [])) p (.dK (mergeK [] [(k, V.int c)])) = upd H p (.dK [(k, V.int c)]) := by
      funext b
      by_cases hb : b = p
      · rw [hb, upd_same, upd_same]
        rfl
      · rw [upd_ne hb, upd_ne hb, upd_ne hb]
    refine ⟨_, hv2, upd_same, [(k, V.int c)], rfl, by simp, ?_⟩
    rw [eu]
    exact l (.ref p) (.new (.dK [(k, .int c)])) F _ a (Same.refl F) (R.lay _ hp) ⟨p, rfl, f1, f2, ⟨_, upd_same, .dK (.cons (Rep.int _) .nil)⟩, f3⟩ hq
  · exact hw.elim
end
end DS

namespace DS
open PySem PySem.Spec PyProof.Rows L2
/-! ### a dict of the memory is a dict of one's own from here on (its lists are data) -/
theorem rel_same_new {K : PySem.W.Frag} {E : En} {F H : Hp} {σ : L2.St} {a : PSt} (R : Rel K E F H σ a) {i : Nat} {p : Addr} {d : D} (hv : σ[i]? = some (some (.ref p))) (hF : F p = none) (hE : E.H p = none) (t : TopAt K F H p d) (hn : ¬ Owned σ a p) : Rel K E F H σ (a.set i (some ⟨.own, d⟩)) := by
  have h := R.setNew (i := i) hF hE t hn
  have : σ.set i (some (.ref p)) = σ := by
    refine List.ext_getElem? fun j => ?_
    by_cases e : i = j
    · subst e
      have hi := (List.getElem?_eq_some_iff.mp hv).1
      rw [List.getElem?_set_self hi, hv]
    · rw [List.getElem?_set_ne e]
  rw [this] at h
  exact h
section
variable {X : Cx} {W : L2.St → XK} {st : List Stmt} {t : TS} {w : WM}
def wmFzKO (i : Nat) (w : WM) : WM := fun g DA a => onAdr a[i]? fun root => ∃ es : List (L2.Key × Addr × List D), TabG D.dK g root es ∧ w [] DA (a.set i (some ⟨.own, .dK ((tabOf es).map fun e => (e.1, .lst e.2))⟩))
theorem sms_fzKO (i : Nat) (h : SMs X W st t w) : SMs X W st t (wmFzKO i w) := by
  refine ⟨h.1, fun E F H σ a g D DA R hw l => ?_⟩
  obtain ⟨root, hr, es, hT, hk⟩ := onAdr_iff.mp hw
  obtain ⟨F1, g1, s1, R1, r1, hg⟩ := freezeKids es F g R hT.kid hT.nd
  have hrt : gAt g1 root = some (DS.D.dK (es.map fun e => (e.1, .adr e.2.1))) := by rw [hg root hT.nr]; exact hT.top
  obtain ⟨f1, f2, f3, o, ho, t⟩ := R1.m root _ hrt
  cases t with
  | dK r =>
    obtain rfl := reps_adr es _ r
    have rp : TopAt X.K F1 H root (.dK ((tabOf es).map fun e => (e.1, .lst e.2))) := by
      unfold tabOf
      rw [List.map_map]
      exact ⟨_, ho, .dK r1⟩
    exact h.2 E F1 H σ _ [] D DA ⟨rel_same_new R1.r (slot_adr R.r hr) f1 f2 rp f3, mem_nil⟩ hk (l.to s1)
end
end DS

/-! The __init__ of an own exception class over ValueError: super().__init__(f'..'), then fields. -/
namespace IX
open PySem PySem.Spec PyProof.Rows L2 PySem.W PySem.Calls
/-- names: as FnScope, with __class__ free -/
structure FnScopeS (N P : List Str) (sc : Scope) : Prop where
  kind : sc.kind = .function
  co : sc.isCoroutine = false
  gen : sc.isGenerator = false
  nd : N.Nodup
  pre : N.take P.length = P
  par : ∀ x ∈ P, sc.names.lookup x = some .local
  nocell : ∀ y ∈ sc.names, y.2 ≠ .cell
  free : ∀ y ∈ sc.names, y.2 = .free → y.1 = "__class__"
  hks : sc.names.lookup ("super" : Str) = some .globalImplicit
  hkc : sc.names.lookup ("__class__" : Str) = some .free
/-- the context of such a body, at its entry: nothing is let out -/
def cxS (P : Program) (w : World) (K : Frag) (mg : Str → Option Value) (base : Heap) (N : List Str) (qual : Str) (scope : Scope) (f : Addr) (cd : Value) (cc : Addr) (A : Around) (outer : List Env) (s : Shared) (H : Hp) (calm : Bool) (pn : List (Addr × Obj)) : Cx where
  prog := P
  w := w
  K := K
  mg := mg
  base := base
  A := A.deeper (ksEnv qual scope s.heap.objs.size f cd cc)
  N := N
  s_0 := s
  H_0 := H
  env := ksEnv qual scope s.heap.objs.size f cd cc
  outer := outer
  stack := ksEnv qual scope s.heap.objs.size f cd cc :: outer
  ex := []
  calm := calm
  fn := fun _ => false
  pn := pn
  xe := fun _ _ => False
theorem lk_cells {cc c : Addr} {x : Str} (h : ([("__class__", cc)] : List (Str × Addr)).lookup x = some c) : x = "__class__" ∧ c = cc := by
  rw [List.lookup_cons] at h
  split at h
  · rename_i e
    cases h
    exact ⟨by simpa using e, rfl⟩
  · cases h
theorem lookup_rev {ps : List Str} {us : List Value} {i : Nat} {x : Str} {u : Value} (nd : ps.Nodup) (hl : us.length = ps.length) (hp : ps[i]? = some x) (hu : us[i]? = some u) : (ps.zip us).reverse.lookup x = some u := by
  have hn : ((ps.zip us).reverse.map (·.1)).Nodup := by
    rw [List.map_reverse, List.map_fst_zip (by omega)]
    unfold List.Nodup at *
    rw [List.pairwise_reverse]
    exact nd.imp fun h => Ne.symm h
  have hm : (x, u) ∈ (ps.zip us).reverse := by
    rw [List.mem_reverse]
    have h1 : i < ps.length := (List.getElem?_eq_some_iff.mp hp).1
    have h2 : i < us.length := (List.getElem?_eq_some_iff.mp hu).1
    have e1 := (List.getElem?_eq_some_iff.mp hp).2
    have e2 := (List.getElem?_eq_some_iff.mp hu).2
    have : (ps.zip us)[i]? = some (x, u) := by
      rw [List.getElem?_eq_getElem (by rw [List.length_zip]; omega), List.getElem_zip, e1, e2]
    exact List.mem_of_getElem? this
  generalize (ps.zip us).reverse = l at hn hm
  induction l with
  | nil => cases hm
  | cons p l ih =>
    obtain ⟨y, v⟩ := p
    rw [List.lookup_cons]
    rcases List.mem_cons.mp hm with e | e
    · cases e
      simp
    · have hne : (x == y) = false := by
        rw [List.map_cons, List.nodup_cons] at hn
        rw [beq_eq_false_iff_ne]
        rintro rfl
        exact hn.1 (List.mem_map_of_mem (f := (·.1)) e)
      rw [hne]
      rw [List.map_cons, List.nodup_cons] at hn
      exact ih hn.2 e
theorem inv_startS {P : Program} {w : World} {K : Frag} {mg : Str → Option Value} {base : Heap} {N ps : List Str} {qual : Str} {scope : Scope} {f : Addr} {cd : Value} {cc : Addr} {A : Around} {outer : List Env} {s : Shared} {H : Hp} {us : List Value} {vs : List V} {calm : Bool} {pn : List (Addr × Obj)} {h1 : Heap} {tk : Nat}
    (S : FnScopeS N ps scope) (hd : calm = true → A.handled = none) (hpin : ∀ p ∈ pn, L2H.PinOk outer H s p) (e0 : Env0 P w K mg base A outer s H) (hl : vs.length = ps.length) (r : Vals vs us) (hcc : ∃ o v, K.lookup cc = some o ∧ o.data = .cell v)
    (hns : h1.Ns s.heap.objs.size (fun y => (ps.zip us).reverse.lookup y)) (hk : ∀ b o, s.heap.get? b = some o → h1.get? b = some o) :
    Inv (cxS P w K mg base N qual scope f cd cc A outer s H calm pn) [] (L2.start N vs) H { s with heap := h1, toks := tk } := by
  have hpl : ps.length ≤ N.length := by have := congrArg List.length S.pre; rw [List.length_take] at this; omega
  have noA : ∀ b : Addr, b ∉ (cxS P w K mg base N qual scope f cd cc A outer s H calm pn).ex := fun b z => absurd (show b ∈ ([] : List Addr) from z) (by simp)
  obtain ⟨oc, vc, hlk, hcd⟩ := hcc
  have hbase : base.get? cc = some oc := e0.mod.kin _ _ hlk
  obtain ⟨hsc, hHc⟩ := e0.bs _ _ hbase
  have cl : ∀ {x : Str} {c : Addr}, (cxS P w K mg base N qual scope f cd cc A outer s H calm pn).env.cells.lookup x = some c → x = "__class__" ∧ c = cc := fun h => lk_cells h
  refine ⟨⟨e0.mod, S.kind, rfl, rfl, Nat.le_refl _, fun y z c h1 h2 => ?_, fun y hy => ?_, fun y c h => ?_, hd, Around.frames_deeper e0.frames, .inr ⟨rfl, rfl⟩, fun b z => absurd z (noA b), e0.bs, e0.bsz, fun b _ _ => noA b, fun b z => absurd z (noA b), e0.funs, e0.frf⟩,
    rfl, e0.bare, Un.kept hk, ⟨_, hns, fun i y v h1 h2 h3 => ?_⟩, fun y c h => ?_, e0.hok.fresh (Nat.le_refl _), fun y c h => ?_, fun q hq => ?_, e0.hok.kept hk, ?_⟩
  · rw [(cl h1).1, (cl h2).1]
  · have hy : scope.names.lookup y = some .cell ∨ scope.names.lookup y = some .free := hy
    rcases hy with hy | hy
    · exact absurd rfl (S.nocell _ (PySem.mem_of_lookup hy))
    · have e := S.free _ (PySem.mem_of_lookup hy) rfl
      simp only at e
      subst e
      exact ⟨cc, rfl⟩
  · exact absurd (show false = true from h) Bool.false_ne_true
  · have hi : i < vs.length := by
      unfold L2.start at h2
      by_cases hi : i < vs.length
      · exact hi
      · rw [List.getElem?_append_right (by simpa using hi)] at h2
        rw [List.getElem?_replicate] at h2
        split at h2 <;> cases h2
    have ha : vs[i]? = some v := by
      unfold L2.start at h2
      rw [List.getElem?_append_left (by simpa using hi), List.getElem?_map] at h2
      cases e : vs[i]? with
      | none => rw [e] at h2; cases h2
      | some a => rw [e] at h2; cases h2; rfl
    obtain ⟨u, hu, rv⟩ := r.get ha
    have hp : ps[i]? = some y := by
      rw [← S.pre, List.getElem?_take_of_lt (by omega)]; exact h1
    have ndP : ps.Nodup := by rw [← S.pre]; exact S.nd.sublist (List.take_sublist _ _)
    exact ⟨u, rv, .inl ⟨S.par y (List.mem_of_getElem? hp), lookup_rev ndP (by rw [← r.length]; exact hl) hp hu⟩⟩
  · obtain ⟨_, rfl⟩ := cl h
    exact ⟨vc, oc, hk _ _ hsc, hcd⟩
  · obtain ⟨_, rfl⟩ := cl h
    exact hHc
  · have hq' : q ∈ pn := by
      rcases List.mem_append.mp hq with z | z
      · exact z
      · exact absurd z (by simp)
    have p := hpin q hq'
    exact ⟨hk _ _ p.get, p.free, fun z => Nat.ne_of_lt (Heap.lt_size p.get) z, p.nofs, p.nocell⟩
  · unfold L2.start
    show _ = N.length
    rw [List.length_append, List.length_map, List.length_replicate]
    omega
/-- how the body of such a def is run: the first statement at the code, the rest anywhere -/
theorem run_ofS {CX : CXT} {P : Program} {w : World} {K : Frag} {mg : Str → Option Value} {base : Heap} {f cc : Addr} {name qual : Str} {params : Arguments} {body : List Stmt} {scope : Scope} {dV kV doc pm cdv ct oc : Value} {an od : Option Addr}
    {osl : Array (Option Value)} {N ps : List Str} {sp : Sp} (lk : K.lookup f = some ⟨oc, od, .func (ksFn name qual params body scope dV kV doc pm an cdv ct cc), osl⟩) (hcd : codeIn K cdv qual = true) (S : FnScopeS N ps scope) (hcc : ∃ o v, K.lookup cc = some o ∧ o.data = .cell v)
    (len : ∀ vs H Q E, sp vs H Q E → vs.length = ps.length)
    (hbody : ∀ (A : Around) (outer : List Env) (s : Shared) (H : Hp) (calm : Bool) (pn : List (Addr × Obj)) (vs : List V) (Q : VK) (E : XK) (s1 : Shared), sp vs H Q E → Inv (cxS P w K mg base N qual scope f cdv cc A outer s H calm pn) [] (L2.start N vs) H s1 →
      _root_.PySem.wpAt (model P w) (A.deeper (ksEnv qual scope s.heap.objs.size f cdv cc)) (.func body (ksEnv qual scope s.heap.objs.size f cdv cc)) (execs body (ksEnv qual scope s.heap.objs.size f cdv cc))
        (SP (cxS P w K mg base N qual scope f cdv cc A outer s H calm pn) [] { nx := fun _ H' => Q .non H', rt := Q }) (fun _ _ => False) s1)
    {A : Around} {outer : List Env} {s : Shared} {H : Hp} {args : Args} {us : List Value} {vs : List V} {Q : VK} {E : XK} {calm : Bool} {pn : List (Addr × Obj)} (hroom : A.depth < recursionLimit) (hd : calm = true → A.handled = none) (hpin : ∀ p ∈ pn, L2H.PinOk outer H s p)
    (e0 : Env0 P w K mg base A outer s H) (hb : BindsTo s (ksFn name qual params body scope dV kV doc pm an cdv ct cc) args (ps.zip us)) (r : Vals vs us) (hsp : sp vs H Q E) :
    codeAny (model P w) A (.call (.ref f) args) (CR CX outer P w H s Q E) s := by
  have hl := len _ _ _ _ hsp
  have KX : K.In s.heap := e0.mod.kin.keeps fun b o e => (e0.bs b o e).1
  have lim : s.heap.NoLimit := e0.mod.nolimit.keeps fun b o e => (e0.bs b o e).1
  refine ks_codeAny_call_defAt (fd := ksFn name qual params body scope dV kV doc pm an cdv ct cc) (body := body) (binds := ps.zip us) hroom (KX _ _ lk) rfl lim (codeRec_of KX hcd) rfl hb S.nocell (fun y hy => ?_) (fun h1 hns hk => ?_) S.co S.gen S.kind
  · obtain ⟨n, v⟩ := y
    exact S.par n (List.of_mem_zip hy).1
  have I : Inv (cxS P w K mg base N qual scope f cdv cc A outer s H calm pn) [] (L2.start N vs) H { s with heap := h1, toks := s.toks + (ps.zip us).length } := inv_startS S hd hpin e0 hl r hcc hns hk
  refine ks_wpAt_mono (hbody A outer s H calm pn vs Q E _ hsp I) (fun fl s' hs => ?_) fun e s' z => z.elim
  have fin : ∀ {σ' : L2.St} {H' : Hp} {v : V} {u : Value}, Inv (cxS P w K mg base N qual scope f cdv cc A outer s H calm pn) [] σ' H' s' → RelV v u → Q v H' → CE outer P w H s Q u s' :=
    fun {σ' H' v u} J rv q => ⟨v, H', J.os, J.bare, J.base, J.hok, rv, q⟩
  cases fl with
  | ret u =>
    obtain ⟨v, σ', H', J, rv, q⟩ := hs
    exact fin J rv q
  | next =>
    obtain ⟨σ', H', J, q⟩ := hs
    exact fin (v := V.non) (u := Value.none) J rfl q
  | brk =>
    obtain ⟨_, _, _, q⟩ := hs
    exact False.elim q
  | cont =>
    obtain ⟨_, _, _, q⟩ := hs
    exact False.elim q
/-- what the written part says of the class, its __init__ and its cell -/
structure IniC (K : Frag) (P : Program) (C f cc : Addr) (fd : FuncData) (cdv : Value) : Prop where
  oex : OexC K C
  fn : ∃ oc od osl, K.lookup f = some ⟨oc, od, .func fd, osl⟩
  cell : ∃ oc od osl, K.lookup cc = some ⟨oc, od, .cell (some (.ref C)), osl⟩
  code : ∃ cda oc od osl, ∃ vs : Array Value, ∃ tf, cdv = .ref cda ∧ K.lookup cda = some ⟨oc, od, .fields vs, osl⟩ ∧ vs[2]? = some (.str P.main.file tf)
  sub : mroIn K C (.ref C) = some true
  subV : subIn K (.ref C) (.type "ValueError") = some true
  sup : nsIn K mainGlobals "super" = some none
  opq : nsIn K cStatics "thirdparty.any" = some none
  ini : ks_superIn K C C "__init__" = some (some (.builtin "ValueError.__init__"))
  top : (P.main.scope.names.lookup ("super" : Str)).isSome = false
section
variable {P : Program} {w : World} {K : Frag} {mg : Str → Option Value} {base : Heap} {N : List Str} {qual : Str} {scope : Scope} {f C cc : Addr} {cdv : Value} {A : Around} {outer : List Env} {s0 : Shared} {H0 : Hp} {calm : Bool} {pn : List (Addr × Obj)}
theorem call_mw {C u e t0 : Addr} {rest : List Value} {h : Heap} {g : Array GenState} {d : Drawn} {t : Nat} {os : OsState} {A : Around} {E : Value → Shared → Prop} {Q : Value → Shared → Prop} {nm q : Str} {N : Addr} {bs bm : List Value} {hdct : Bool} {sn : List Str} {sub : List Value} {ab : Bool} {col : Option Bool} {dd : Option Addr} {k0 k1 k2 k3 k5 : Option Value}
    (hC : h.get? C = some (excClassObj nm q C N bs bm hdct sn sub ab col dd k0 k1 k2 k3 k5 "ValueError.__new__")) (he : h.get? e = some (HandSPX.excO C t0)) (hu : h.get? u = some (kxs_mw "ValueError.__init__" e)) (hrest : rest.length ≤ sizeLine)
    (hq : ∀ h' t1, (∀ b o, b ≠ e → h.get? b = some o → h'.get? b = some o) → h'.get? e = some (HandSPX.excO C t1) → Q .none ⟨h', g, d, t, os⟩) :
    wpAny (model P w) A (call (.ref u) rest) Q E ⟨h, g, d, t, os⟩ := by
  refine wpAny_call (codeAny_of_tree ?_)
  show wpAny _ A.in1 (callAny (.ref u) ⟨rest, []⟩) _ _ _
  simp only [callAny]
  refine wpAny_bind (wpAny_load hu ?_)
  simp only [kxs_mw, show (Value.type "method-wrapper" == Value.type "method" || Value.type "method-wrapper" == Value.type "builtin_function_or_method" || Value.type "method-wrapper" == Value.type "method-wrapper") = true by decide, if_true]
  refine KFB.if_so (by decide) ?_
  refine wpAny_bind (check_bound_init F.excBase_ValueError.toExcCallFacts hC he rfl ?_)
  refine wpAny_bind (wpAny_pure (wpAny_pure ?_))
  refine ⟨plainId_quiet F.excBase_ValueError.init.plain _, codeAny_builtin F.excBase_ValueError.initEntry ?_⟩
  exact exc_init_tree (cls := .ref C) (t0 := t0) (dv := none) (c2 := .none) (c3 := .none) (b4 := .bool false) he hrest fun h' k e' _ => hq h' _ k e'
theorem super_ok {body : List Stmt} {fd : FuncData} (IC : IniC K P C f cc fd cdv) (hks : scope.names.lookup ("super" : Str) = some .globalImplicit) (hkc : scope.names.lookup ("__class__" : Str) = some .free) {ar : Arg} {i : Nat} (hp : (fd.params.posonlyargs ++ fd.params.args).head? = some ar)
    (hN : N[i]? = some ar.arg) (hka : scope.names.lookup ar.arg = some .local) {e : Expr} {te : TE} {σ : L2.St} {H : Hp} {s : Shared} {a : Addr} {D : Ends} {p0 p1 p2 p3 p4 : Pos}
    (I : Inv (cxS P w K mg base N qual scope f cdv cc A outer s0 H0 calm pn) [] σ H s) (hσ : σ[i]? = some (some (.ref a))) (hH : H a = some (exo a C none)) (he : PE (cxS P w K mg base N qual scope f cdv cc A outer s0 H0 calm pn) e te)
    (h : te σ H fun x H1 => ([x] : List V).length = 1 ∧ H1 a = some (exo a C none) ∧ D.nx σ H1)
    (hcall : ∃ pl : Sem Bool, eval (.Call (.Attribute (.Call (.Name "super" p0) [] [] p1) "__init__" p2) [e] [] p3) (ksEnv qual scope s0.heap.objs.size f cdv cc) = (do
      let ov ← attributeBase (.Call (.Name "super" p0) [] [] p1) "__init__" (ksEnv qual scope s0.heap.objs.size f cdv cc) (eval (.Call (.Name "super" p0) [] [] p1) (ksEnv qual scope s0.heap.objs.size f cdv cc))
      standAt p2.atName
      let (fx, first) ← holding [ov] (getMethod ov "__init__" pl)
      callWith p3 fx first (backTo p3 (starEach [e] (ksEnv qual scope s0.heap.objs.size f cdv cc))) []))
    (hsw : swapsWith (.Call (.Attribute (.Call (.Name "super" p0) [] [] p1) "__init__" p2) [e] [] p3) none p4.line (ksEnv qual scope s0.heap.objs.size f cdv cc) = pure false)
    (hst : starEach [e] (ksEnv qual scope s0.heap.objs.size f cdv cc) = [(false, eval e (ksEnv qual scope s0.heap.objs.size f cdv cc))]) :
    _root_.PySem.wpAt (model P w) (A.deeper (ksEnv qual scope s0.heap.objs.size f cdv cc)) (.func body (ksEnv qual scope s0.heap.objs.size f cdv cc))
      (exec (.Expr (.Call (.Attribute (.Call (.Name "super" p0) [] [] p1) "__init__" p2) [e] [] p3) p4) (ksEnv qual scope s0.heap.objs.size f cdv cc))
      (SP (cxS P w K mg base N qual scope f cdv cc A outer s0 H0 calm pn) [] D) (fun _ _ => False) s := by
  obtain ⟨oc, od, osl, hf⟩ := IC.fn
  obtain ⟨ocl, odl, osll, hcell⟩ := IC.cell
  obtain ⟨cda, occ, ocd, ocsl, vs, tf, rfl, hcode, hvs⟩ := IC.code
  have hC := IC.oex.cls
  obtain ⟨nm, qn, Na, bs, bm, sn, sub, ab, col, dd, k0, k1, k2, k3, k5, hC, hbm⟩ := hC
  have hcl : clsIn K C = some { name := nm, bases := bs, mro := .ref C :: bm, ns := Na, qualname := qn, hasDict := true, slotNames := sn, subclasses := sub, abstract := ab, collection := col, hasDel := false } := by unfold clsIn; rw [hC] <;> rfl
  have KX : K.In s.heap := I.kIn
  obtain ⟨t0, hx⟩ := exo_at I.hok hH
  have hk : (ksEnv qual scope s0.heap.objs.size f (.ref cda) cc).scope.kind = .function := I.ok.kind
  obtain ⟨pl, hcall⟩ := hcall
  refine ks_wpAt_Expr_any ?_ I.quiet hsw
  refine ks_wpAt_MethodCall (he := hcall) ?_
  refine ks_wpAt_super_base (env := ksEnv qual scope s0.heap.objs.size f (.ref cda) cc) hks hkc (by decide) rfl (KX _ _ hf) rfl hp rfl (KX _ _ hcode) rfl hvs (by simp) IC.top ?_
  obtain ⟨m, hns, hloc⟩ := I.loc
  obtain ⟨u, ru, lku⟩ := hloc i ar.arg (.ref a) hN hσ (.inl hka)
  obtain rfl : u = Value.ref a := ru
  have hma : m ar.arg = some (.ref a) := by
    rcases lku with ⟨_, e⟩ | ⟨hc | hc, _⟩
    · exact e
    · rw [show (cxS P w K mg base N qual scope f (.ref cda) cc A outer s0 H0 calm pn).env.kindOf ar.arg = scope.names.lookup ar.arg from rfl, hka] at hc
      cases hc
    · rw [show (cxS P w K mg base N qual scope f (.ref cda) cc A outer s0 H0 calm pn).env.kindOf ar.arg = scope.names.lookup ar.arg from rfl, hka] at hc
      cases hc
  obtain ⟨mb, hnb, hmb⟩ := I.ok.mod.blt
  have keepB : ∀ b o, base.get? b = some o → s.heap.get? b = some o := I.bk
  refine ks_loadName_global hk hks (loadGlobal_builtin (env := ksEnv qual scope s0.heap.objs.size f (.ref cda) cc) (Heap.Ns.keeps I.ok.mod.glob keepB) (mg_none_of I.ok.mod.kin I.ok.mod.glob IC.sup) (Heap.Ns.keeps hnb keepB) ((hmb _ (by decide)).trans PyProof.Rows.Boot.«super») ⟨rfl, ?_⟩)
  refine wpAny_loadName_free hk hkc rfl ⟨_, KX _ _ hcell, rfl⟩ ?_
  refine wpAny_loadName_local hk hka hns hma ?_
  refine ks_wpAny_isType_cls (KX _ _ hC) rfl ⟨rfl, ?_⟩
  obtain ⟨hp, g, dr, tk, os⟩ := s
  have hxa : ({ cls := .ref C, dict := none, data := .fields #[.ref t0, .none, .none, .none, .bool false, .none] } : Obj).cls = .ref C := rfl
  refine ks_wpAny_call_super (KX _ _ hC) rfl hx hxa (fun c z => by cases z) (looks_mroIn KX IC.sub) (fun h' eso k => ?_)
  have I1 : Inv (cxS P w K mg base N qual scope f (.ref cda) cc A outer s0 H0 calm pn) [] σ H ⟨h', g, dr, tk, os⟩ := I.kept (t' := tk) k
  have KX1 : K.In h' := I1.kIn
  have hx1 := k _ _ hx
  have hxC : a ≠ C := fun z => by
    have e1 := KX _ _ hC
    rw [← z, hx] at e1
    cases e1
  have INS : PySem.W.InstAt h' a ({ cls := .ref C, dict := none, data := .fields #[.ref t0, .none, .none, .none, .bool false, .none] } : Obj) C none := ⟨hx1, rfl, rfl, trivial⟩
  have hI : Looks (model P w) h' (isInstance (.ref a) (.type "ValueError")) true := INS.type.andThen (looks_subIn KX1 IC.subV)
  have hin := IC.ini
  unfold ks_superIn at hin
  rw [hcl] at hin
  refine kxs_getMethod kxs_ValueError eso (looks_opaque KX1 IC.opq) (l₀ := .ref C :: bm) (fun A Q E s k q => wpAny_bind ((looks_clsIn KX1 hcl) A _ E s k (wpAny_pure q))) rfl KX1 hin hI hxC (by decide) ?_
  have I2 : Inv (cxS P w K mg base N qual scope f (.ref cda) cc A outer s0 H0 calm pn) [] σ H ⟨h'.push (kxs_mw "ValueError.__init__" a), g, dr, tk + 1, os⟩ := I1.kept (t' := tk + 1) fun b o z => Heap.get?_push_of_some _ z
  have hu : (h'.push (kxs_mw "ValueError.__init__" a)).get? h'.objs.size = some (kxs_mw "ValueError.__init__" a) := Heap.get?_push_at rfl rfl
  have I3 : Inv (cxS P w K mg base N qual scope f (.ref cda) cc A outer s0 H0 calm pn) [(h'.objs.size, kxs_mw "ValueError.__init__" a)] σ H ⟨h'.push (kxs_mw "ValueError.__init__" a), g, dr, tk + 1, os⟩ := I2.pins_of fun p hp => by
    rcases List.mem_singleton.mp hp
    exact ⟨hu, I1.hok.fresh (Nat.le_refl _), fun z => absurd I1.lt (by rw [← z]; exact Nat.lt_irrefl _), I1.nofs (Nat.le_refl _), fun v z => by cases z⟩
  refine kxs_callWith (i := "ValueError.__init__") (x := a) (by rw [hst]; rfl) ?_
  rw [hst]
  refine evalArgs_plain ?_
  have hA : PA (cxS P w K mg base N qual scope f (.ref cda) cc A outer s0 H0 calm pn) [e] (tCons te tNil) := pa_cons he pa_nil hst
  have hrun := hA.run p3 [(h'.objs.size, kxs_mw "ValueError.__init__" a)] _ σ H (fun vs H1 => vs.length = 1 ∧ H1 a = some (exo a C none) ∧ D.nx σ H1) I3 h
  rw [show starEach [e] (cxS P w K mg base N qual scope f (.ref cda) cc A outer s0 H0 calm pn).env = _ from hst] at hrun
  refine wpAny_mono hrun (fun us s2 hh => ?_) fun _ _ z => z
  obtain ⟨vs2, H1, J, rv, hlen, ha1, hnx⟩ := hh
  have hu2 := (J.pin (h'.objs.size, kxs_mw "ValueError.__init__" a) (List.mem_append_right _ (List.mem_singleton.mpr rfl))).1
  refine ⟨hu2, ?_⟩
  obtain ⟨t2, hx2⟩ := exo_at J.hok ha1
  have hul : us.length ≤ sizeLine := by
    rw [← Paired.length rv, hlen, sizeLine_eq]
    omega
  obtain ⟨hp2, g2, dr2, tk2, os2⟩ := s2
  refine call_mw (J.kIn _ _ hC) hx2 hu2 hul fun h4 t4 k4 hx4 => ?_
  have J1 : Inv (cxS P w K mg base N qual scope f (.ref cda) cc A outer s0 H0 calm pn) [] σ H1 ⟨hp2, g2, dr2, tk2, os2⟩ := J.pins_of fun p hp => by cases hp
  have J2 := J1.write (t' := tk2) (x := a) (e := a) (o := exo a C none) (by rw [ha1]; exact True.intro) (.inl rfl) k4 ⟨_, hx4⟩ (exo_ok hx4)
  have eu : upd H1 a (exo a C none) = H1 := by
    funext b
    by_cases hb : b = a
    · rw [hb, upd_same, ha1]
    · rw [upd_ne hb]
  rw [eu] at J2
  exact ⟨σ, H1, J2, hnx⟩
end
/-- what such an __init__ promises: its fields fs hold what it was given -/
def iniSp (C : Addr) (fs : List Str) (fmt : List V → Prop) : Sp := fun vs H Q _ => ∃ a ws, vs = .ref a :: ws ∧ ws.length = fs.length ∧ H a = some (exo a C none) ∧ fmt ws ∧
  ∀ d H', H d = none → d ≠ a → H' a = some (exo a C (some d)) → H' d = some (exd d (fs.zip ws).reverse) → (∀ b, b ≠ a → b ≠ d → H' b = H b) → Q .non H'
section
variable {P : Program} {w : World} {K : Frag} {mg : Str → Option Value} {base : Heap} {k : Nat} {f C cc : Addr} {name qual : Str} {params : Arguments} {scope : Scope} {dV kV doc pm cdv ct : Value} {an : Option Addr} {N ps : List Str} {fs : List Str} {fmt : List V → Prop} {ar : Arg} {e : Expr} {p0 p1 p2 p3 p4 : Pos} {rest : List Stmt}
/-- what is asked of the text, in any context -/
structure IniB (P : Program) (w : World) (K : Frag) (mg : Str → Option Value) (base : Heap) (N : List Str) (qual : Str) (scope : Scope) (f C cc : Addr) (cdv : Value) (fs : List Str) (fmt : List V → Prop) (e : Expr) (rest : List Stmt) (p0 p1 p2 p3 p4 : Pos) : Prop where
  fe : ∀ A outer s H calm pn, ∃ te, PE (cxS P w K mg base N qual scope f cdv cc A outer s H calm pn) e te ∧ ∀ a ws H Q, ws.length = fs.length → fmt ws → (∀ out, Q (.str out) H) → te (L2.start N (.ref a :: ws)) H Q
  re : ∀ A outer s H calm pn, ∃ t, PSs (cxS P w K mg base N qual scope f cdv cc A outer s H calm pn) rest t ∧ ∀ a ws H D, ws.length = fs.length → H a = some (exo a C none) →
    (∀ d H', H d = none → d ≠ a → H' a = some (exo a C (some d)) → H' d = some (exd d (fs.zip ws).reverse) → (∀ b, b ≠ a → b ≠ d → H' b = H b) → ∀ σ, D.nx σ H') → t D (L2.start N (.ref a :: ws)) H
  hcall : ∀ L, ∃ pl : Sem Bool, eval (.Call (.Attribute (.Call (.Name "super" p0) [] [] p1) "__init__" p2) [e] [] p3) (ksEnv qual scope L f cdv cc) = (do
      let ov ← attributeBase (.Call (.Name "super" p0) [] [] p1) "__init__" (ksEnv qual scope L f cdv cc) (eval (.Call (.Name "super" p0) [] [] p1) (ksEnv qual scope L f cdv cc))
      standAt p2.atName
      let (fx, first) ← holding [ov] (getMethod ov "__init__" pl)
      callWith p3 fx first (backTo p3 (starEach [e] (ksEnv qual scope L f cdv cc))) [])
  hsw : ∀ L, swapsWith (.Call (.Attribute (.Call (.Name "super" p0) [] [] p1) "__init__" p2) [e] [] p3) none p4.line (ksEnv qual scope L f cdv cc) = pure false
  hst : ∀ L, starEach [e] (ksEnv qual scope L f cdv cc) = [(false, eval e (ksEnv qual scope L f cdv cc))]
theorem ini_body {body : List Stmt} (hbd : body = .Expr (.Call (.Attribute (.Call (.Name "super" p0) [] [] p1) "__init__" p2) [e] [] p3) p4 :: rest) {fd : FuncData} (IC : IniC K P C f cc fd cdv) (S : FnScopeS N ps scope) (hp : (fd.params.posonlyargs ++ fd.params.args).head? = some ar) (hps : ps[0]? = some ar.arg)
    (B : IniB P w K mg base N qual scope f C cc cdv fs fmt e rest p0 p1 p2 p3 p4) {A : Around} {outer : List Env} {s : Shared} {H : Hp} {calm : Bool} {pn : List (Addr × Obj)} {vs : List V} {Q : VK} {E : XK} {s1 : Shared} (hsp : iniSp C fs fmt vs H Q E)
    (I : Inv (cxS P w K mg base N qual scope f cdv cc A outer s H calm pn) [] (L2.start N vs) H s1) :
    _root_.PySem.wpAt (model P w) (A.deeper (ksEnv qual scope s.heap.objs.size f cdv cc)) (.func body (ksEnv qual scope s.heap.objs.size f cdv cc)) (execs body (ksEnv qual scope s.heap.objs.size f cdv cc))
      (SP (cxS P w K mg base N qual scope f cdv cc A outer s H calm pn) [] { nx := fun _ H' => Q .non H', rt := Q }) (fun _ _ => False) s1 := by
  subst hbd
  obtain ⟨a, ws, rfl, hl, ha, hf, hq⟩ := hsp
  obtain ⟨te, he, het⟩ := B.fe A outer s H calm pn
  obtain ⟨t, ht, htt⟩ := B.re A outer s H calm pn
  have h0 : ps[0]? = N[0]? := by
    have := S.pre
    cases ps with
    | nil => simp at hps
    | cons x xs => rw [← this]; simp
  refine ks_wpAt_execs_cons (ks_wpAt_mono (super_ok (D := { nx := fun σ H1 => σ = L2.start N (.ref a :: ws) ∧ H1 = H, rt := fun _ _ => False, bk := fun _ _ => False, ct := fun _ _ => False }) IC S.hks S.hkc hp (i := 0) (by rw [← h0]; exact hps) (S.par _ (List.mem_of_getElem? hps)) I rfl ha he
    (het a ws H _ hl hf fun out => ⟨rfl, ha, rfl, rfl⟩) (B.hcall _) (B.hsw _) (B.hst _)) (fun fl s' hs => ?_) fun _ _ z => z)
  cases fl with
  | next =>
    obtain ⟨σ', H', J, rfl, rfl⟩ := hs
    exact wpAt_of_wpAny (ht.run [] s' _ _ _ J (htt a ws _ _ hl ha fun d H' h1 h2 h3 h4 h5 _ => hq d H' h1 h2 h3 h4 h5))
  | ret u => obtain ⟨_, _, _, _, _, z⟩ := hs; exact z.elim
  | brk => obtain ⟨_, _, _, z⟩ := hs; exact z.elim
  | cont => obtain ⟨_, _, _, z⟩ := hs; exact z.elim
theorem ini_fn {CX : CXT} {body : List Stmt} (hbd : body = .Expr (.Call (.Attribute (.Call (.Name "super" p0) [] [] p1) "__init__" p2) [e] [] p3) p4 :: rest) (IC : IniC K P C f cc (ksFn name qual params body scope dV kV doc pm an cdv ct cc) cdv) (hcd : codeIn K cdv qual = true) (S : FnScopeS N ps scope)
    (hp : (params.posonlyargs ++ params.args).head? = some ar) (hps : ps[0]? = some ar.arg) (hpl : ps.length = fs.length + 1) (B : IniB P w K mg base N qual scope f C cc cdv fs fmt e rest p0 p1 p2 p3 p4) :
    FnOk P w K mg base CX (k + 1) f (ksFn name qual params body scope dV kV doc pm an cdv ct cc) ps (iniSp C fs fmt) ∧ L2H.FnH P w K mg base CX (k + 1) f (ksFn name qual params body scope dV kV doc pm an cdv ct cc) ps (iniSp C fs fmt) := by
  obtain ⟨oc, od, osl, lk⟩ := IC.fn
  obtain ⟨ocl, odl, osll, hcell⟩ := IC.cell
  have len : ∀ vs H Q E, iniSp C fs fmt vs H Q E → vs.length = ps.length := fun vs H Q E ⟨a, ws, e1, e2, _⟩ => by rw [e1, List.length_cons, e2, hpl]
  refine ⟨⟨len, fun A outer s H args us vs Q E hr e0 hb r hsp => ?_⟩, ⟨len, fun A outer s H args us vs Q E p hr hot hpin e0 hb r hsp => ?_⟩⟩
  · exact run_ofS (calm := true) (pn := []) lk hcd S ⟨_, _, hcell, rfl⟩ len (fun A outer s H calm pn vs Q E s1 h I => ini_body hbd IC S hp hps B h I) hr.depth (fun _ => hr.hd) (fun p hp => by cases hp) e0 hb r hsp
  · exact run_ofS (calm := false) (pn := [p]) lk hcd S ⟨_, _, hcell, rfl⟩ len (fun A outer s H calm pn vs Q E s1 h I => ini_body hbd IC S hp hps B h I) hr.depth (fun z => Bool.noConfusion z) (fun q hq => by rcases List.mem_singleton.mp hq; exact hpin) e0 hb r hsp
end
/-! ### the forms of the text -/
/-- what may stand in an f-string here: an int, a text -/
def FmtV (w : V) : Prop := (∃ i : Int, w = .int i ∧ i.natAbs.log2 < 1920) ∨ ∃ y : Str, w = .str y ∧ y.length ≤ 1000000
def outV : V → Str
  | .int i => toString i
  | .str y => y
  | _ => Str.empty
theorem outV_len {w : V} (h : FmtV w) : (outV w).length ≤ 1000000 := by
  rcases h with ⟨i, rfl, h⟩ | ⟨y, rfl, h⟩
  · have e := int_text_length_le (k := 1920) (by decide) h
    show (Str.ofString (toString i)).length ≤ 1000000
    rw [PySem.ofString_length]
    omega
  · exact h
theorem tfmt_ok {te : TE} {σ : L2.St} {H : Hp} {Q : VK} {w : V} (h : FmtV w) (ht : ∀ Q' : VK, Q' w H → te σ H Q') (q : Q (.str (outV w)) H) : tFmt te σ H Q := by
  refine ht _ ?_
  rcases h with ⟨i, rfl, h⟩ | ⟨y, rfl, h⟩
  · exact .inr ⟨i, rfl, h, q⟩
  · exact .inl ⟨y, rfl, by rw [sizeLine_eq]; omega, q⟩
theorem str_app_len (a b : Str) : (a ++ b).length = a.length + b.length := by
  show (a.cps ++ b.cps).size = a.cps.size + b.cps.size
  simp
section
variable {P : Program} {w : World} {K : Frag} {mg : Str → Option Value} {base : Heap} {f C cc : Addr} {qual x g c1 c2 : Str} {scope : Scope} {cdv : Value} {p0 p1 p2 p3 p4 q0 q1 q2 q3 q4 q5 q6 : Pos} {j1 j2 : Nat} (xd : (x == ("__debug__" : Str)) = false) (xc : (x == ("__classdict__" : Str)) = false)
include xd xc
/-- self.g = x, the only one -/
theorem ini_rest1 (T : OexC K C) (hno : findIn K (.ref C) g = some none) (h0 : scope.names.lookup ("self" : Str) = some .local) (h1 : scope.names.lookup x = some .local) (hsw : ∀ L, swapsWith (.Name x q1) (some (.Attribute (.Name "self" q2) g q3)) q4.line (ksEnv qual scope L f cdv cc) = pure false) :
    ∀ A outer s H calm pn, ∃ t, PSs (cxS P w K mg base ["self", x] qual scope f cdv cc A outer s H calm pn) [.Assign [.Attribute (.Name "self" q2) g q3] (.Name x q1) q4] t ∧ ∀ a ws H D, ws.length = [g].length → H a = some (exo a C none) →
    (∀ d H', H d = none → d ≠ a → H' a = some (exo a C (some d)) → H' d = some (exd d ([g].zip ws).reverse) → (∀ b, b ≠ a → b ≠ d → H' b = H b) → ∀ σ, D.nx σ H') → t D (L2.start ["self", x] (.ref a :: ws)) H := by
  intro A outer s H calm pn
  refine ⟨_, pss_one (ps_ost (pe_var (i := 0) rfl (.inl h0)) (pe_var (i := 1) rfl (.inl h1) (hd := xd) (hcd := xc)) (hsw _)), fun a ws H D hl ha hq => ?_⟩
  match ws, hl with
  | [w1], _ =>
    refine ⟨w1, rfl, .ref a, rfl, a, C, rfl, T, hno, .inl ⟨ha, fun dx hd hne => ?_⟩⟩
    exact hq dx _ hd hne upd_same (by rw [upd_ne hne, upd_same]; rfl) (fun b h1 h2 => by rw [upd_ne h1, upd_ne h2]) _
/-- f'c1{x}' -/
theorem ini_fmtA (h1 : scope.names.lookup x = some .local) (hc : c1.length ≤ 1000) : ∀ A outer s H calm pn, ∃ te, PE (cxS P w K mg base ["self", x] qual scope f cdv cc A outer s H calm pn) (.JoinedStr [.Constant (.str c1) j1 q0, .FormattedValue (.Name x q1) (-1) none q2] q3) te ∧
    ∀ a ws H Q, ws.length = [g].length → (∀ w ∈ ws, FmtV w) → (∀ out, Q (.str out) H) → te (L2.start ["self", x] (.ref a :: ws)) H Q := by
  intro A outer s H calm pn
  refine ⟨_, pe_joined (.cons pe_str (.cons (pe_fmt (pe_var (i := 1) rfl (.inl h1) (hd := xd) (hcd := xc))) .nil)), fun a ws H Q hl hw hq => ?_⟩
  obtain ⟨w1, rfl⟩ : ∃ w1, ws = [w1] := List.length_eq_one_iff.mp hl
  have hw := hw w1 (List.mem_singleton.mpr rfl)
  have hz := outV_len hw
  refine ⟨c1, rfl, ?_, tfmt_ok hw (fun Q' q => ⟨w1, rfl, q⟩) ⟨_, rfl, ?_, hq _⟩⟩
  · rw [str_app_len, sizeLine_eq, show Str.empty.length = 0 from rfl]; omega
  · rw [str_app_len, str_app_len, sizeLine_eq, show Str.empty.length = 0 from rfl]; omega
/-- f'c1{x}c2' -/
theorem ini_fmtB (h1 : scope.names.lookup x = some .local) (hc : c1.length ≤ 1000) (hc2 : c2.length ≤ 1000) : ∀ A outer s H calm pn, ∃ te, PE (cxS P w K mg base ["self", x] qual scope f cdv cc A outer s H calm pn) (.JoinedStr [.Constant (.str c1) j1 q0, .FormattedValue (.Name x q1) (-1) none q2, .Constant (.str c2) j2 q4] q3) te ∧
    ∀ a ws H Q, ws.length = [g].length → (∀ w ∈ ws, FmtV w) → (∀ out, Q (.str out) H) → te (L2.start ["self", x] (.ref a :: ws)) H Q := by
  intro A outer s H calm pn
  refine ⟨_, pe_joined (.cons pe_str (.cons (pe_fmt (pe_var (i := 1) rfl (.inl h1) (hd := xd) (hcd := xc))) (.cons pe_str .nil))), fun a ws H Q hl hw hq => ?_⟩
  obtain ⟨w1, rfl⟩ : ∃ w1, ws = [w1] := List.length_eq_one_iff.mp hl
  have hw := hw w1 (List.mem_singleton.mpr rfl)
  have hz := outV_len hw
  refine ⟨c1, rfl, ?_, tfmt_ok hw (fun Q' q => ⟨w1, rfl, q⟩) ⟨_, rfl, ?_, c2, rfl, ?_, hq _⟩⟩
  · rw [str_app_len, sizeLine_eq, show Str.empty.length = 0 from rfl]; omega
  · rw [str_app_len, str_app_len, sizeLine_eq, show Str.empty.length = 0 from rfl]; omega
  · rw [str_app_len, str_app_len, str_app_len, sizeLine_eq, show Str.empty.length = 0 from rfl]; omega
end
end IX

/-! Exceptions over plain data: raise, try, what a def lets out. -/
namespace DS
open PySem PySem.Spec PyProof.Rows L2
def exSub (x c : CN) : Bool := match c with
  | .CorpusError => match x with
    | .SignReader => false
    | .Rules => false
    | .Contents => false
    | .Corpus => false
    | .Book => false
    | .Keeper => false
    | _ => true
  | c => decide (x = c)
theorem takesN_of {X : Cx} {W : WX} (t : L2.Takes X W) : L2N.Takes X W := fun u s' ⟨a, B, sI, pins, σ, H, cls, d, e, I, nb, up, sky, na, os, ag, w⟩ => by
  refine t u s' ⟨a, B, sI, pins, σ, H, cls, d, e, I, nb, up, ?_, na, os, ag, w⟩
  rcases sky with ⟨hB, hn, hl, oe, vs, he, hz, hd, h1⟩ | fl | hh
  · exact .inl ⟨hB, hn, hl, oe, vs, he, hz.zc, hd, h1⟩
  · exact .inr (.inl (L2H.flyingZ_imp (fun o h => L2N.Zn.zc h) fl))
  · exact .inr (.inr ⟨hh.1, hh.2.1, hh.2.2.1, L2H.tracedZ_imp (fun o h => L2N.Zn.zc h) hh.2.2.2⟩)
/-- what a call may let out is taken, as W wishes -/
abbrev WXof (W : L2.St → XK) : WX := fun c d σ H => W σ c d H
theorem psAtN {X : Cx} {W : L2.St → XK} (tk : L2N.Takes X (WXof W)) : ∀ σ, PassesAt (L2N.CX X.prog X.w) X σ (W σ) := L2N.passAt tk
theorem psAtL {X : Cx} {W : L2.St → XK} (tk : L2.Takes X (WXof W)) : ∀ σ, PassesAt (L2.CX X.prog X.w) X σ (W σ) := L2.passAt tk
theorem takes0N {X : Cx} : L2N.Takes X (WXof W0) := fun _ _ x => by
  obtain ⟨_, _, _, _, _, _, _, _, _, _, _, _, _, _, _, _, z⟩ := x
  exact z.elim
theorem takes0L {X : Cx} : L2.Takes X (WXof W0) := fun _ _ x => by
  obtain ⟨_, _, _, _, _, _, _, _, _, _, _, _, _, _, _, _, z⟩ := x
  exact z.elim

/-! ### a call that may raise -/
@[irreducible] def callX (spec : DS.Spec) (as : List AV) (Q : AV → List AV → Prop) (Qe : Exc → List AV → Prop) : Prop := spec as Q Qe
theorem callX_i {spec : DS.Spec} {as : List AV} {Q : AV → List AV → Prop} {Qe : Exc → List AV → Prop} (h : spec as Q Qe) : callX spec as Q Qe := by unfold callX; exact h
theorem callX_d {spec : DS.Spec} {as : List AV} {Q : AV → List AV → Prop} {Qe : Exc → List AV → Prop} (h : callX spec as Q Qe) : spec as Q Qe := by unfold callX at h; exact h
def wCallX (spec : Spec) (ws : WA) : WE := fun a q qe => ws a (fun rs a1 => onO (avsOf a1 rs) fun as => br (sep a1 rs) (callX spec as (fun r as' => q (resOf r) (putBack a1 rs as')) (fun x as' => qe x (putBack a1 rs as'))) False) qe
section
variable {X : Cx} {W : L2.St → XK} {e : Expr} {es : List Expr} {pos : Pos} {ws : WA} {la : TA} {k : Nat} {fa : Addr} {fd : FuncData} {ps : List Str} {spec : Spec} {x : Str} {p : Pos} {CX : CXT}
theorem se_callX (G : FnOk X.prog X.w X.K X.mg X.base CX k fa fd ps (spOf X.K spec)) (hr : Room k X.A) (hx : ∀ σ, PassesAt CX X σ (W σ)) (hg : Gl X x) (hm : X.mg x = some (.ref fa)) (hk : PySem.W.keepIn X.K (.ref fa) = true) (hb : Binds X.K fd ps []) (ha : SA X W (e :: es) la ws)
    (hdb : (x == ("__debug__" : Str)) = false := by decide) (he : starEach (e :: es) X.env = (false, eval e X.env) :: starEach es X.env := by rfl) (hpl : (backTo pos (starEach es X.env)).any (·.1) = false := by rfl) :
    SE X W (.Call (.Name x p) (e :: es) [] pos) (tCallS (spOf X.K spec) W la) (wCallX spec ws) := by
  obtain ⟨pa, s⟩ := ha
  refine ⟨pe_callS G hr hg hm hk hb hx pa hdb he hpl, fun E F H σ a Q q qe R hw l lx => ?_⟩
  refine s E F H σ a _ _ qe R hw (fun vs rs F1 H1 a1 e1 R1 rps hn hq => ?_) lx
  obtain ⟨as, hav, hq⟩ := onO_iff.mp hq
  obtain ⟨hs, hsp⟩ : sep a1 rs = true ∧ spec as (fun r as' => q (resOf r) (putBack a1 rs as')) (fun x as' => qe x (putBack a1 rs as')) := by
    cases e : sep a1 rs with
    | true => exact ⟨rfl, callX_d (br_tt hq e)⟩
    | false => exact (br_ff hq e).elim
  refine ⟨F1, as, _, _, args_ok R1 rps hs hav, hsp, fun r as' h v F' H' P ro => ?_, fun x as' h cls dx F' H' P xr => ?_⟩
  · have R' := rel_back R1 rps hs hav P
    refine l v (resOf r) F' H' _ (e1.trans P.f) R' (ret_back R1 P ro fun b ⟨i, av, h1, h2, h3⟩ => ?_) h
    obtain ⟨c, e⟩ := putBack_flag rs a1 as' i av h1
    exact R1.owned_h ⟨i, _, e, h2, h3⟩
  · exact lx x (putBack a1 rs as') cls dx F' H' (e1.trans P.f) (rel_back R1 rps hs hav P) xr h
end

/-! ### raise -/
def fmtD : D → Prop
  | .int i => i.natAbs.log2 < 1920
  | .str y => y.length ≤ 1000000
  | _ => False
abbrev fmtW : List V → Prop := fun ws => ∀ w ∈ ws, IX.FmtV w
theorem fmt_rep {K : PySem.W.Frag} {F : Hp} {v : V} {d : D} (h : Rep K F v d) (f : fmtD d) : IX.FmtV v := by
  cases d with
  | int i => cases h; exact .inl ⟨_, rfl, f⟩
  | str y => cases h; exact .inr ⟨_, rfl, f⟩
  | _ => exact f.elim
theorem fmt_reps {K : PySem.W.Frag} {F : Hp} : ∀ {vs : List V} {ds : List D}, Reps K F vs ds → (∀ d ∈ ds, fmtD d) → fmtW vs
  | _, _, .nil, _ => fun w h => by cases h
  | _, _, .cons r t, f => fun w h => by
    rcases List.mem_cons.mp h with rfl | h
    · exact fmt_rep r (f _ List.mem_cons_self)
    · exact fmt_reps t (fun d hd => f d (List.mem_cons_of_mem _ hd)) w h
theorem repA_zip {K : PySem.W.Frag} {F : Hp} : ∀ {fs : List Str} {vs : List V} {ds : List D}, Reps K F vs ds → RepA K F (fs.zip vs) (fs.zip ds)
  | [], _, _, _ => .nil
  | _ :: _, _, _, .nil => .nil
  | _ :: fs, _, _, .cons r t => .cons r (repA_zip t)
theorem repA_app {κ : Type} {K : PySem.W.Frag} {F : Hp} : ∀ {xs ys : List (κ × V)} {us ws : List (κ × D)}, RepA K F xs us → RepA K F ys ws → RepA K F (xs ++ ys) (us ++ ws)
  | [], _, [], _, _, s => s
  | (k, v) :: xs, ys, (j, d) :: us, ws, h, s => by
    cases h with
    | cons r t => exact .cons r (repA_app t s)
  | [], _, _ :: _, _, h, _ => by cases h
  | _ :: _, _, [], _, h, _ => by cases h
theorem repA_rev {κ : Type} {K : PySem.W.Frag} {F : Hp} : ∀ {xs : List (κ × V)} {us : List (κ × D)}, RepA K F xs us → RepA K F xs.reverse us.reverse
  | [], [], _ => .nil
  | (k, v) :: xs, (j, d) :: us, h => by
    cases h with
    | cons r t =>
      rw [List.reverse_cons, List.reverse_cons]
      exact repA_app (repA_rev t) (.cons r .nil)
  | [], _ :: _, h => by cases h
  | _ :: _, [], h => by cases h
def wRaise0 (x : CN) : WS := fun D a => D.ex ⟨x, []⟩ a
def wRaise (x : CN) (fs : List Str) (ws : WA) : WS := fun D a => ws a (fun rs a1 => fzs rs a1 fun ds a2 => ds.length = fs.length ∧ (∀ d ∈ ds, fmtD d) ∧ D.ex ⟨x, (fs.zip ds).reverse⟩ a2) D.ex
section
variable {X : Cx} {W : L2.St → XK} {st : Stmt} {e : Expr} {es : List Expr} {pos : Pos} {ws : WA} {la : TA} {C : Addr} {x : CN} {fs : List Str}
def tRaise0 (W : L2.St → XK) (C : Addr) : TS := fun _ σ H => W σ (.ref C) none H
theorem ss_raise0 (hps : PS X st (tRaise0 W C)) (hn : NmC X.K x C) : SS X W st (tRaise0 W C) (wRaise0 x) :=
  ⟨hps, fun E F H σ a D DA R hw l => l.ex σ ⟨x, []⟩ a (.ref C) none F H (Same.refl F) R ⟨⟨C, hn, rfl⟩, rfl⟩ hw⟩
def tRaise (W : L2.St → XK) (C : Addr) (fs : List Str) (la : TA) : TS := fun _ σ H => tMkO C (IX.iniSp C fs fmtW) [] la σ H fun cls d H' => W σ cls d H'
theorem ss_raise (hps : PS X st (tRaise W C fs la)) (ha : SA X W es la ws) (hn : NmC X.K x C) (hfl : fs.length ≤ 900 := by decide) : SS X W st (tRaise W C fs la) (wRaise x fs ws) := by
  refine ⟨hps, fun E F H σ a D DA R hw l => ?_⟩
  refine ha.2 E F H σ a _ _ _ R hw (fun vs rs F1 H1 a1 e1 R1 rps hnn hq => ?_) (l.ex σ)
  obtain ⟨F2, a2, ds, s2, R2, rp2, hl, hf, hx⟩ := fzs_ok R1 rps hnn hq
  have hvl : vs.length = fs.length := rp2.length.trans hl
  refine ⟨by rw [hvl]; omega, fun b hb => ⟨b, vs, by rw [List.append_nil], hvl, upd_same, fmt_reps rp2 hf, fun d H' hd hne h1 h2 h3 => ⟨rfl, d, _, h1, h2, ?_, ?_⟩⟩⟩
  · rw [upd_ne hne] at hd; exact hd
  · have hd1 : H1 d = none := by rw [upd_ne hne] at hd; exact hd
    have eH : upd (del H' b) d (.xd (fs.zip vs).reverse) = upd H1 d (.xd (fs.zip vs).reverse) := by
      funext c
      by_cases c1 : c = d
      · rw [c1, upd_same, upd_same]
      · rw [upd_ne c1, upd_ne c1]
        by_cases c2 : c = b
        · rw [c2, del_same, hb]
        · rw [del_ne c2, h3 c c2 c1, upd_ne c2]
    rw [eH]
    obtain ⟨s3, R3⟩ := R2.layF (.xd (fs.zip vs).reverse) hd1
    exact l.ex σ ⟨x, (fs.zip ds).reverse⟩ a2 (.ref C) (some d) _ _ ((e1.trans s2).trans s3) R3 ⟨⟨C, hn, rfl⟩, _, upd_same, repA_rev (repA_zip (rp2.mono s3))⟩ hx
end

/-! ### try -/
section
variable {X : Cx} {W : L2.St → XK}
theorem SSs.ownW {st : List Stmt} {t : TS} {w : WS} (h : SSs X W st t w) : PSs X st (tS X.K W w) := h.own
def rtEnds (DA : EndsA) (i : Nat) : EndsA := { nx := fun a => DA.nx (a.set i none), rt := DA.rt, bk := fun a => DA.bk (a.set i none), ct := fun a => DA.ct (a.set i none), ex := fun _ _ => False }
abbrev WH := Addr → Option Addr → Exc → WS
def wTryAs (cl : List CN) (c : CN) (i : Nat) (w : WS) (hw : WH) : WS := fun DA a => w { DA with ex := fun x a1 => x.C ∈ cl ∧ br (exSub x.C c) (∀ ea d, hw ea d x (rtEnds DA i) (a1.set i (some ⟨.no, .exc ea d x.C x.fs⟩))) (DA.ex x a1) } a
/-- an except suite's reading: the exception is told -/
def tSuite (K : PySem.W.Frag) (hw : WH) (a : Addr) (cls : Value) (d : Option Addr) : TS := fun D σ H => ∃ E F ab DA x, Rel K E F H σ ab ∧ (∃ C, NmC K x.C C ∧ cls = .ref C) ∧ hw a d x DA ab ∧ Lk K E F D DA W0
/-- what is to be known of the classes that fly here -/
def ExmOk (K : PySem.W.Frag) (cl : List CN) (c : CN) (Cc : Addr) : Prop := ∀ x ∈ cl, ∀ C, NmC K x C → PySem.W.exmOne K (.ref C) (.ref Cc) = some (exSub x c)
theorem ss_tryAs {n : Str} {i : Nat} {body suite : List Stmt} {b₀ : Stmt} {np pos pos' : Pos} {w : WS} {hw : WH} {cl : List CN} {c : CN} {Cc : Addr} (hs : X.stack = X.env :: X.outer) (hf : X.env.frame = some X.env.locals) (hN : X.N.Nodup) (hi : X.N[i]? = some n) (hln : X.env.kindOf n = some .local)
    (hc : Names X c.s (.ref Cc)) (hex : ExmOk X.K cl c Cc) (tk : L2.Takes X (WXof W))
    (hb : ∀ (W' : WX) (pn : List (Addr × Obj)) (xe : Value → Shared → Prop), L2.Takes (X.tr pn xe) W' → PassesOwn (model X.prog X.w) X.A X.env xe → ∃ t, SSs (X.tr pn xe) (fun σ c d H => W' c d σ H) body t w)
    (hsu : ∀ (a : Addr) (oe : Obj) (C : Addr) (d : Option Addr) (pn : List (Addr × Obj)) (x : Exc), NmC X.K x.C C → Zc (.ref C) d oe → (∃ vs, oe.data = .fields vs) → ∃ t, SSs (X.suite a ((a, oe) :: pn)) W0 (b₀ :: suite) t (hw a d x)) :
    SS X W (.Try body [.ExceptHandler (some (.Name c.s np)) (some n) (b₀ :: suite) pos'] [] [] pos) (fun D σ H => tS X.K (fun σ c d H => wAs X.K (.ref Cc) i (tSuite X.K hw) (WXof W) D c d σ H) w D σ H) (wTryAs cl c i w hw) := by
  refine ⟨ps_try_as (tb := fun W' => tS X.K (fun σ c d H => W' c d σ H) w) (ts := tSuite X.K hw) (Wout := WXof W) hs hf hN hi hln hc tk (fun W' pn xe tk' po => ?_) (fun a oe cls d pn hz hfl => ?_), fun E F H σ a D DA R h l => ?_⟩
  · obtain ⟨t, h⟩ := hb W' pn xe tk' po
    exact h.own
  · refine ⟨fun pins s σ H D I h => ?_⟩
    obtain ⟨E, F, ab, DA, x, R, ⟨C, hn, rfl⟩, hw1, l⟩ := h
    obtain ⟨t, hh⟩ := hsu a oe C d pn x hn hz hfl
    exact hh.1.run pins s σ H D I (hh.2 E F H σ ab D DA R hw1 l)
  · refine ⟨E, F, a, _, R, h, l.nx, l.bk, l.ct, l.rt, fun σ' x a' cls dx F' H' s R' xr q => ?_⟩
    obtain ⟨hm, q⟩ := q
    obtain ⟨⟨C, hn, rfl⟩, hfs⟩ := id xr
    refine ⟨exSub x.C c, hex x.C hm C hn, fun hb ea hea => ?_, fun hb => ?_⟩
    · have q1 := br_tt q hb ea dx
      have rp : Rep X.K F' (.ref ea) (.exc ea dx x.C x.fs) := by
        cases dx with
        | none => have e : x.fs = [] := hfs; rw [e]; exact .exc0
        | some d => obtain ⟨fs, h1, h2⟩ := hfs; exact .exc h1 h2
      refine ⟨E, F', _, _, x, R'.setDat rp, ⟨C, hn, rfl⟩, q1, fun σ2 F2 H2 a2 e2 R2 q2 => ?_, fun σ2 F2 H2 a2 e2 R2 q2 => ?_, fun σ2 F2 H2 a2 e2 R2 q2 => ?_, fun σ2 F2 H2 a2 v r e2 R2 rr q2 => ?_, fun σ2 x2 a2 c2 d2 F2 H2 e2 R2 xr2 z => z.elim⟩
      · exact l.nx _ F2 H2 _ (s.trans e2) (R2.forget i none) q2
      · exact l.bk _ F2 H2 _ (s.trans e2) (R2.forget i none) q2
      · exact l.ct _ F2 H2 _ (s.trans e2) (R2.forget i none) q2
      · exact l.rt σ2 F2 H2 a2 v r (s.trans e2) R2 rr q2
    · exact l.ex σ' x a' (.ref C) dx F' H' s R' xr (br_ff q hb)
/-- try .. except C, no name; the suite raises nothing -/
def wTryOnly (cl : List CN) (c : CN) (w hw : WS) : WS := fun DA a => w { DA with ex := fun x a1 => x.C ∈ cl ∧ br (exSub x.C c) (hw { DA with ex := fun _ _ => False } a1) (DA.ex x a1) } a
theorem ss_tryOnly {body suite : List Stmt} {b₀ : Stmt} {np pos pos' : Pos} {w hw : WS} {cl : List CN} {c : CN} {Cc : Addr} (hs : X.stack = X.env :: X.outer) (hf : X.env.frame = some X.env.locals)
    (hc : Names X c.s (.ref Cc)) (hex : ExmOk X.K cl c Cc) (tk : L2.Takes X (WXof W))
    (hb : ∀ (W' : WX) (pn : List (Addr × Obj)) (xe : Value → Shared → Prop), L2.Takes (X.tr pn xe) W' → PassesOwn (model X.prog X.w) X.A X.env xe → ∃ t, SSs (X.tr pn xe) (fun σ c d H => W' c d σ H) body t w)
    (hsu : ∀ (a : Addr) (oe : Obj) (C : Addr) (d : Option Addr) (pn : List (Addr × Obj)), Zc (.ref C) d oe → (∃ vs, oe.data = .fields vs) → ∃ t, SSs (X.suite a ((a, oe) :: pn)) W0 (b₀ :: suite) t hw) :
    SS X W (.Try body [.ExceptHandler (some (.Name c.s np)) none (b₀ :: suite) pos'] [] [] pos) (fun D σ H => tS X.K (fun σ c d H => wOnly X.K (.ref Cc) (tSuite X.K fun _ _ _ => hw) (WXof W) D c d σ H) w D σ H) (wTryOnly cl c w hw) := by
  refine ⟨ps_try_only (tb := fun W' => tS X.K (fun σ c d H => W' c d σ H) w) (ts := tSuite X.K fun _ _ _ => hw) (Wout := WXof W) hs hf hc tk (fun W' pn xe tk' po => ?_) (fun a oe cls d pn hz hfl => ?_), fun E F H σ a D DA R h l => ?_⟩
  · obtain ⟨t, h⟩ := hb W' pn xe tk' po
    exact h.own
  · refine ⟨fun pins s σ H D I h => ?_⟩
    obtain ⟨E, F, ab, DA, x, R, ⟨C, hn, rfl⟩, hw1, l⟩ := h
    obtain ⟨t, hh⟩ := hsu a oe C d pn hz hfl
    exact hh.1.run pins s σ H D I (hh.2 E F H σ ab D DA R hw1 l)
  · refine ⟨E, F, a, _, R, h, l.nx, l.bk, l.ct, l.rt, fun σ' x a' cls dx F' H' s R' xr q => ?_⟩
    obtain ⟨hm, q⟩ := q
    obtain ⟨⟨C, hn, rfl⟩, hfs⟩ := id xr
    refine ⟨exSub x.C c, hex x.C hm C hn, fun hb ea hea => ?_, fun hb => ?_⟩
    · refine ⟨E, F', _, _, x, R', ⟨C, hn, rfl⟩, br_tt q hb, fun σ2 F2 H2 a2 e2 => l.nx σ2 F2 H2 a2 (s.trans e2), fun σ2 F2 H2 a2 e2 => l.bk σ2 F2 H2 a2 (s.trans e2), fun σ2 F2 H2 a2 e2 => l.ct σ2 F2 H2 a2 (s.trans e2), fun σ2 F2 H2 a2 v r e2 => l.rt σ2 F2 H2 a2 v r (s.trans e2), fun σ2 x2 a2 c2 d2 F2 H2 e2 R2 xr2 z => z.elim⟩
    · exact l.ex σ' x a' (.ref C) dx F' H' s R' xr (br_ff q hb)
/-- .. the suite may raise -/
def wTryOnlyX (cl : List CN) (c : CN) (w hw : WS) : WS := fun DA a => w { DA with ex := fun x a1 => x.C ∈ cl ∧ br (exSub x.C c) (hw DA a1) (DA.ex x a1) } a
def tSuiteX (K : PySem.W.Frag) (W : L2.St → XK) (hw : WS) (a : Addr) (cls : Value) (d : Option Addr) : TS := fun D σ H => ∃ E F ab DA, Rel K E F H σ ab ∧ hw DA ab ∧ Lk K E F D DA W
theorem ss_tryOnlyX {body suite : List Stmt} {b₀ : Stmt} {np pos pos' : Pos} {w hw : WS} {cl : List CN} {c : CN} {Cc : Addr} (hs : X.stack = X.env :: X.outer) (hf : X.env.frame = some X.env.locals)
    (hc : Names X c.s (.ref Cc)) (hex : ExmOk X.K cl c Cc) (hpa : ∀ hd : Option Value, PassesOwnAt (model X.prog X.w) (X.A.mark hd) X.A X.env X.xe) (tk : L2.Takes X (WXof W))
    (hb : ∀ (W' : WX) (pn : List (Addr × Obj)) (xe : Value → Shared → Prop), L2N.Takes (X.tr pn xe) W' → PassesOwn (model X.prog X.w) X.A X.env xe → ∃ t, SSs (X.tr pn xe) (fun σ c d H => W' c d σ H) body t w)
    (hsu : ∀ (a : Addr) (oe : Obj) (d : Option Addr) (pn : List (Addr × Obj)), L2.Takes (L2H.suiteX X a ((a, oe) :: pn)) (WXof W) → L2H.HotC (L2H.suiteX X a ((a, oe) :: pn)) → ∃ t, SSs (L2H.suiteX X a ((a, oe) :: pn)) W (b₀ :: suite) t hw) :
    SS X W (.Try body [.ExceptHandler (some (.Name c.s np)) none (b₀ :: suite) pos'] [] [] pos) (fun D σ H => tS X.K (fun σ c d H => wOnly X.K (.ref Cc) (tSuiteX X.K W hw) (WXof W) D c d σ H) w D σ H) (wTryOnlyX cl c w hw) := by
  refine ⟨L2H.ps_try_onlyX (tb := fun W' => tS X.K (fun σ c d H => W' c d σ H) w) (ts := tSuiteX X.K W hw) (Wout := WXof W) hs hf hc hpa tk (fun W' pn xe tk' _ po => ?_) (fun a oe cls d pn hz hfl tk2 hot => ?_), fun E F H σ a D DA R h l => ?_⟩
  · obtain ⟨t, h⟩ := hb W' pn xe tk' po
    exact h.own
  · refine ⟨fun pins s σ H D I h => ?_⟩
    obtain ⟨E, F, ab, DA, R, hw1, l⟩ := h
    obtain ⟨t, hh⟩ := hsu a oe d pn tk2 hot
    exact hh.1.run pins s σ H D I (hh.2 E F H σ ab D DA R hw1 l)
  · refine ⟨E, F, a, _, R, h, l.nx, l.bk, l.ct, l.rt, fun σ' x a' cls dx F' H' s R' xr q => ?_⟩
    obtain ⟨hm, q⟩ := q
    obtain ⟨⟨C, hn, rfl⟩, hfs⟩ := id xr
    refine ⟨exSub x.C c, hex x.C hm C hn, fun hb ea hea => ?_, fun hb => ?_⟩
    · exact ⟨E, F', _, _, R', br_tt q hb, l.to s⟩
    · exact l.ex σ' x a' (.ref C) dx F' H' s R' xr (br_ff q hb)
end

/-! ### the caught exception, read -/
section
variable {X : Cx} {W : L2.St → XK} {e : Expr} {es : List Expr} {pos : Pos} {ta : TE} {w : WE}
/-- the class as a value -/
theorem pe_cls {x : CN} {C : Addr} {pos : Pos} (hg : Gl X x.s) (hm : X.mg x.s = some (.ref C)) (hd : (x.s == ("__debug__" : Str)) = false) : PE X (.Name x.s pos) (tC (.ref C)) := pe_glob (v := .ref C) hg hm rfl hd
/-- kitOne's answers -/
def KitOk (K : PySem.W.Frag) (cl : List CN) (c : CN) (Cc : Addr) : Prop := ∀ x ∈ cl, ∀ C, NmC K x C → ExcC K C ∧ PySem.W.kitOne K (.ref C) (.ref Cc) = some (exSub x c)
def rIsX (K : PySem.W.Frag) (cl : List CN) (x : CN) (d : Option Addr) (D a : Addr) : List V → Hp → VK → Prop := fun xs H Q => x ∈ cl ∧ (match d with | none => True | some dd => ∃ fs, H dd = some (.xd fs)) ∧ rIsE K D a xs H Q
theorem call_isE2 {X : Cx} {a D : Addr} {d : Option Addr} {oe : Obj} {pn : List (Addr × Obj)} {cl : List CN} {x : CN} (C : x ∈ cl → ExcC X.K D) (hz : Zc (.ref D) d oe) (hf : ∃ vs, oe.data = .fields vs) : CallR (X.suite a ((a, oe) :: pn)) (.builtin "isinstance") (rIsX X.K cl x d D a) := by
  intro pins s σ H xs us Q I r h
  obtain ⟨hmem, hd, c, cv, b, rfl, hcv, e, q⟩ := h
  have C := C hmem
  cases r with
  | cons rx rr =>
    cases rr with
    | @cons _ u2 _ _ rt rr =>
      cases rr
      cases rx
      obtain rfl := hcv _ rt
      obtain ⟨hget, _⟩ := I.pin (a, oe) (List.mem_append.mpr (.inl List.mem_cons_self))
      obtain ⟨vs, hv⟩ := hf
      have hcl : (PySem.W.clsIn X.K D).isSome = true := by
        obtain ⟨cdD, hcD, _⟩ := PySem.W.any_some C.hd
        rw [hcD]; rfl
      have fin : ∀ od, PySem.W.InstAt s.heap a oe D od → wpAny (model X.prog X.w) (X.suite a ((a, oe) :: pn)).A (call (.builtin "isinstance") [.ref a, u2]) (EP (X.suite a ((a, oe) :: pn)) pins σ Q) (X.suite a ((a, oe) :: pn)).xe s := fun od J =>
        PySem.W.kia_one (PySem.W.kitx_exc hcl C.hg C.hk C.hs C.ha C.hn C.ht C.hm) I.kIn J e (fun z => nomatch z) fun tk => ⟨.bl b, H, I.kept (t' := tk) fun _ _ z => z, rfl, q⟩
      obtain ⟨oc, odi, oda, osl⟩ := oe
      obtain ⟨h1, h2⟩ := hz
      dsimp only at h1 h2 hv
      subst h1 h2 hv
      cases odi with
      | none => exact fin none ⟨hget, rfl, rfl, trivial⟩
      | some dd =>
        obtain ⟨fs, hdd⟩ := hd
        have hx : ObjOk X.prog X.w H s.heap dd (.xd fs) := I.hok dd _ hdd
        obtain ⟨mA, hns, hr⟩ := hx
        obtain ⟨od, ho, hl⟩ := lookIn_ns hns
        exact fin (some od) ⟨hget, rfl, rfl, ho⟩
def XdR (K : PySem.W.Frag) (F : Hp) (d : Option Addr) (fs : List (Str × D)) : Prop := match d with
  | none => fs = []
  | some dd => ∃ vs, F dd = some (.xd vs) ∧ RepA K F vs fs
theorem rep_exc {K : PySem.W.Frag} {F : Hp} {v : V} {a : Addr} {d : Option Addr} {C : CN} {fs : List (Str × D)} (h : Rep K F v (.exc a d C fs)) : v = .ref a ∧ XdR K F d fs := by
  generalize hX : D.exc a d C fs = z at h
  cases h with
  | exc0 => cases hX; exact ⟨rfl, rfl⟩
  | exc h1 h2 => cases hX; exact ⟨rfl, _, h1, h2⟩
  | _ => cases hX
theorem rd_exc {K : PySem.W.Frag} {F H : Hp} {v : V} {a : Addr} {d : Option Addr} {C : CN} {fs : List (Str × D)} (h : RdD K F H v (.exc a d C fs)) : Rep K F v (.exc a d C fs) := by
  rcases h with h | ⟨p, rfl, o, _, t⟩
  · exact h
  · cases t
def wIsE (ea : Addr) (d : Option Addr) (x : Exc) (cl : List CN) (c : CN) (w : WE) : WE := fun a q qe => w a (fun r a1 => onO (con a1 r) fun v => v = .exc ea d x.C x.fs ∧ x.C ∈ cl ∧ q (.dat (.bl (exSub x.C c))) a1) qe
theorem se_isE {a Cx1 : Addr} {d : Option Addr} {oe : Obj} {pn : List (Addr × Obj)} {x : Exc} {cl : List CN} {c : CN} {Cc : Addr} {p p2 : Pos} (hn : NmC X.K x.C Cx1) (hz : Zc (.ref Cx1) d oe) (hf : ∃ vs, oe.data = .fields vs) (hk : KitOk X.K cl c Cc)
    (h : SE (X.suite a ((a, oe) :: pn)) W e ta w) (hg : Gl X "isinstance") (hm : X.mg "isinstance" = none) (hv : bootBuiltins "isinstance" = some (.builtin "isinstance")) (hgc : Gl X c.s) (hmc : X.mg c.s = some (.ref Cc)) (hdc : (c.s == ("__debug__" : Str)) = false)
    (he : starEach [e, .Name c.s p2] X.env = (false, eval e X.env) :: starEach [.Name c.s p2] X.env := by rfl) (he2 : starEach [.Name c.s p2] X.env = (false, eval (.Name c.s p2) X.env) :: starEach [] X.env := by rfl) (hpl : (backTo pos (starEach [.Name c.s p2] X.env)).any (·.1) = false := by rfl) :
    SE (X.suite a ((a, oe) :: pn)) W (.Call (.Name "isinstance" p) [e, .Name c.s p2] [] pos) (tCB (rIsX X.K cl x.C d Cx1 a) (tCons ta (tCons (tC (.ref Cc)) tNil))) (wIsE a d x cl c w) := by
  refine ⟨pe_callB (X := X.suite a ((a, oe) :: pn)) (call_isE2 (fun hm => (hk x.C hm Cx1 hn).1) hz hf) hg hm hv (pa_cons h.1 (pa_cons (pe_cls (X := X.suite a ((a, oe) :: pn)) hgc hmc hdc) pa_nil he2) he) (by decide) (by decide) he hpl, fun E F H σ ab Q q qe R hw l lx => ?_⟩
  refine h.2 E F H σ ab _ _ qe R hw (fun v r F' H' a' e' R' rp hq => ?_) lx
  obtain ⟨v1, hv1, rfl, hmem, hq⟩ := onO_iff.mp hq
  obtain ⟨rfl, hd⟩ := rep_exc (rd_exc (rd_of R' rp hv1))
  refine ⟨hmem, ?_, .ref Cc, .ref Cc, exSub x.C c, rfl, fun u hu => hu, (hk x.C hmem Cx1 hn).2, l _ (.dat (.bl _)) F' H' a' e' R' (.bl _) hq⟩
  cases d with
  | none => trivial
  | some dd =>
    obtain ⟨vs, h1, _⟩ := hd
    exact ⟨vs, R'.ext _ _ h1⟩
def wXf (ea : Addr) (d : Option Addr) (x : Exc) (c : CN) (f : Str) (w : WE) : WE := fun a q qe => w a (fun r a1 => onO (con a1 r) fun v => v = .exc ea d x.C x.fs ∧ x.C = c ∧ onO (x.fs.lookup f) fun u => q (.dat u) a1) qe
theorem repA_look {K : PySem.W.Frag} {F : Hp} {f : Str} : ∀ {vs : List (Str × V)} {ds : List (Str × D)} {u : D}, RepA K F vs ds → ds.lookup f = some u → ∃ v, vs.lookup f = some v ∧ Rep K F v u
  | [], [], _, _, h => by cases h
  | (k, v) :: vs, (j, d) :: ds, u, h, e => by
    cases h with
    | cons r t =>
      rw [List.lookup_cons] at e ⊢
      split at e
      · cases e; exact ⟨v, rfl, r⟩
      · exact repA_look t e
  | [], _ :: _, _, h, _ => by cases h
  | _ :: _, [], _, h, _ => by cases h
theorem se_xf {a Cx1 C : Addr} {d : Option Addr} {oe : Obj} {pn : List (Addr × Obj)} {x : Exc} {c : CN} {f : Str} (hn : NmC X.K x.C Cx1) (hz : Zc (.ref Cx1) d oe) (hf : ∃ vs, oe.data = .fields vs) (hc : NmC X.K c C) (T : XfC X.K C) (hno : PySem.W.findIn X.K (.ref C) f = some none)
    (h : SE (X.suite a ((a, oe) :: pn)) W e ta w) (hb : attributeBase e f X.env (eval e X.env) = eval e X.env := by rfl) :
    SE (X.suite a ((a, oe) :: pn)) W (.Attribute e f pos) (tXf a (.ref Cx1) d C f ta) (wXf a d x c f w) := by
  refine ⟨pe_xf T hno hz hf h.1 hb, fun E F H σ ab Q q qe R hw l lx => h.2 E F H σ ab _ _ qe R hw (fun v r F' H' a' e' R' rp hq => ?_) lx⟩
  obtain ⟨v1, hv, e1, e2, hq1⟩ := onO_iff.mp hq
  clear hq
  subst e1 e2
  obtain ⟨u, hu, hq⟩ := onO_iff.mp hq1
  obtain ⟨rfl, hd⟩ := rep_exc (rd_exc (rd_of R' rp hv))
  cases d with
  | none =>
    have e0 : x.fs = [] := hd
    rw [e0] at hu
    cases hu
  | some dd =>
    obtain ⟨vs, h1, h2⟩ := hd
    obtain ⟨u', e1, r1⟩ := repA_look h2 hu
    exact ⟨rfl, by rw [hn.eq hc], dd, vs, u', rfl, R'.ext _ _ h1, e1, l u' (.dat u) F' H' a' e' R' r1 hq⟩
end

/-! ### what a def lets out -/
def endsX (as : List AV) (Q : AV → List AV → Prop) (Qe : Exc → List AV → Prop) : EndsA where
  nx := fun a => onO (outs as a) fun as' => Q ⟨.no, .non⟩ as'
  rt := fun r a => onO (outs as a) fun as' => Q r as'
  bk := fun _ => False
  ct := fun _ => False
  ex := fun x a => onO (outs as a) fun as' => Qe x as'
section
variable {P : Program} {w : World} {K : PySem.W.Frag} {mg : Str → Option Value} {base : Heap}
theorem ok_defX {CX : CXT} {x qual : Str} {st : Stmt} {f : Addr} {fd : FuncData} {N ps : List Str} {k : Nat} {spec : Spec} {wb : WS} (F : Fun K x qual st f fd) (S : FnScope N ps (defScope st)) (har : ∀ as Q Qe, spec as Q Qe → as.length = ps.length)
    (hN : ps.length ≤ N.length)
    (hbody : ∀ (cdv : Value) (A : Around) (outer : List Env) (s : Shared) (H : Hp) (E : XK), Room k (A.deeper (envOfC qual (defScope st) s.heap.objs.size f cdv)) →
      ∃ t, SSs (cxOf CX P w K mg base N qual (defScope st) f cdv A outer s H E) (fun _ => E) (defBody st) t wb)
    (pure : ∀ as Q Qe, spec as Q Qe → wb (endsX as Q Qe) (initA N.length as)) : FnOk P w K mg base CX (k + 1) f fd ps (spOf K spec) := by
  obtain ⟨oc, od, kV, doc, pm, an, cdv, ct, osl, rfl, lk, hcd⟩ := F.ex
  refine fn_of lk hcd S (fun vs H Q E ⟨F0, as, Q0, Qe0, A, h, _⟩ => A.len.trans (har as _ _ h)) (fun A outer s H vs Q E hr h => ?_)
  obtain ⟨F0, as, Q0, Qe0, AO, hs, hq, hx⟩ := h
  obtain ⟨t, hb⟩ := hbody cdv A outer s H E hr
  refine ⟨t, hb.1, hb.2 ⟨F0, H, LentAt vs as, vs⟩ F0 H _ _ _ _ (entry_rel AO (by rw [har as _ _ hs]; exact hN)) (pure as Q0 Qe0 hs) ⟨?_, ?_, ?_, ?_, ?_⟩⟩
  · intro σ F' H' a e R h
    obtain ⟨as', ho, h⟩ := onO_iff.mp h
    exact hq _ as' h .non F' H' (post_of AO R ho) Rep.non
  · rintro σ F' H' a e R h
    exact h.elim
  · rintro σ F' H' a e R h
    exact h.elim
  · intro σ F' H' a v r e R rr h
    obtain ⟨as', ho, h⟩ := onO_iff.mp h
    exact hq r as' h v F' H' (post_of AO R ho) rr
  · rintro σ x a cls dx F' H' e R xr h
    obtain ⟨as', ho, h⟩ := onO_iff.mp h
    exact hx x as' h cls dx F' H' (post_of AO R ho) xr
/-- a def of the top that may raise, keeping its promise -/
def CalX (CX : CXT) (P : Program) (w : World) (K : PySem.W.Frag) (mg : Str → Option Value) (base : Heap) (k : Nat) (x : Str) (ps : List Str) (spec : Spec) : Prop :=
  ∃ f fd, FnOk P w K mg base CX k f fd ps (spOf K spec) ∧ mg x = some (.ref f) ∧ PySem.W.keepIn K (.ref f) = true ∧ Binds K fd ps []
theorem FunAt.calX {CX : CXT} {k : Nat} {x : Str} {st : Stmt} {ps : List Str} {spec : Spec} (h : FunAt K mg x st ps)
    (g : ∀ f fd, Fun K x x st f fd → FnOk P w K mg base CX k f fd ps (spOf K spec)) : CalX CX P w K mg base k x ps spec := by
  obtain ⟨f, fd, F, m, b⟩ := h
  exact ⟨f, fd, g f fd F, m, F.kp, b⟩
end
end DS

/-! What the written part says of the classes that are raised and caught. -/
namespace DS
open PySem PySem.Spec PyProof.Rows L2
def clsBody : Stmt → List Stmt
  | .ClassDef _ _ _ b _ _ _ _ _ _ _ => b
  | _ => []
/-- a class that is raised, caught or asked for -/
structure ExP (K : PySem.W.Frag) (x : CN) (C : Addr) : Prop where
  nm : NmC K x C
  exC : PySem.W.subIn K (.ref C) (.type "BaseException") = some true
  hd : PySem.W.hasDictIn K C = true
  ty : PySem.W.typeIn K (.ref C) = some (.type "type")
  kp : PySem.W.keepIn K (.ref C) = true
  self : PySem.W.subIn K (.ref C) (.ref C) = some true
  ga : PySem.W.findIn K (.ref C) "__getattribute__" = some (some (.builtin "BaseException.__getattribute__"))
  gg : PySem.W.findIn K (.ref C) "__getattr__" = some none
  cl : PySem.W.findIn K (.ref C) "__class__" = some (some (.builtin "object.__class__"))
  ob : PySem.W.mroIn K C (.type "object") = some true
structure ExK (K : PySem.W.Frag) : Prop where
  cg : PySem.W.specialIn K (.builtin "object.__class__") "__get__" = some (some (.builtin "getset_descriptor.__get__"))
  ct : PySem.W.takesIn K (.builtin "object.__class__") = some true
theorem ExP.exc {K : PySem.W.Frag} {x : CN} {C : Addr} (p : ExP K x C) (k : ExK K) : ExcC K C := ⟨p.ga, p.gg, p.exC, p.hd, p.cl, k.cg, k.ct, p.ob⟩
theorem ExP.xf {K : PySem.W.Frag} {x : CN} {C : Addr} (p : ExP K x C) : XfC K C := ⟨p.ga, p.gg, p.exC, p.hd⟩
theorem ExP.raises {X : Cx} {x : CN} {C : Addr} (p : ExP X.K x C) : Raises X (.ref C) := raises_own p.exC p.ty
/-- one class under another, or not -/
def SubF (K : PySem.W.Frag) (x c : CN) (b : Bool) : Prop := ∃ C D, NmC K x C ∧ NmC K c D ∧ PySem.W.subIn K (.ref C) (.ref D) = some b
theorem SubF.mk' {K : PySem.W.Frag} {x c : CN} {b : Bool} {C D : Addr} (h1 : NmC K x C) (h2 : NmC K c D) (h3 : PySem.W.subIn K (.ref C) (.ref D) = some b) : SubF K x c b := ⟨C, D, h1, h2, h3⟩
theorem exm_of {K : PySem.W.Frag} {x c : CN} {C D : Addr} {b : Bool} (p : ExP K c D) (hx : NmC K x C) (s : SubF K x c b) : PySem.W.exmOne K (.ref C) (.ref D) = some b := by
  obtain ⟨C', D', h1, h2, h3⟩ := s
  obtain rfl := h1.eq hx
  obtain rfl := h2.eq p.nm
  exact PySem.W.exm_ref p.exC p.hd p.ty h3
theorem kit_of {K : PySem.W.Frag} {x c : CN} {C D : Addr} {b : Bool} (p : ExP K c D) (hx : NmC K x C) (s : SubF K x c b) : PySem.W.kitOne K (.ref C) (.ref D) = some b := by
  obtain ⟨C', D', h1, h2, h3⟩ := s
  obtain rfl := h1.eq hx
  obtain rfl := h2.eq p.nm
  unfold PySem.W.kitOne
  by_cases e : C' = D'
  · subst e
    have := p.self.symm.trans h3
    cases this
    simp
  · have hne : (Value.ref C' == Value.ref D') = false := by simp [e]
    rw [hne, if_neg Bool.false_ne_true]
    obtain ⟨cd, hc, _⟩ := PySem.W.any_some p.hd
    show (if ((PySem.W.clsIn K D').isSome && PySem.W.typeIn K (.ref D') == some (.type "type")) = true then _ else _) = _
    rw [hc, p.ty, if_pos (by simp)]
    exact h3
theorem exmOk_of {K : PySem.W.Frag} {cl : List CN} {c : CN} {D : Addr} (p : ExP K c D) (h : ∀ x ∈ cl, SubF K x c (exSub x c)) : ExmOk K cl c D := fun x hx C hn => exm_of p hn (h x hx)
theorem kitOk_of {K : PySem.W.Frag} {cl : List CN} {c : CN} {D : Addr} (k : ExK K) (p : ExP K c D) (hp : ∀ x ∈ cl, ∃ C, ExP K x C) (h : ∀ x ∈ cl, SubF K x c (exSub x c)) : KitOk K cl c D := fun x hx C hn => by
  obtain ⟨C', px⟩ := hp x hx
  obtain rfl := px.nm.eq hn
  exact ⟨px.exc k, kit_of p hn (h x hx)⟩
/-- an exception class without an own __init__ -/
structure ExN (K : PySem.W.Frag) (x : CN) (C : Addr) : Prop where
  p : ExP K x C
  q : PySem.W.excIn K C PySem.HandSPX.veTail "ValueError.__new__" = true
/-- .. with one -/
structure ExI (K : PySem.W.Frag) (P : Program) (x : CN) (qual : Str) (st : Stmt) (fs : List Str) (C : Addr) : Prop where
  p : ExP K x C
  ex : ∃ fi cc cdv kV doc pm an ct, IX.IniC K P C fi cc (PySem.W.ksFn "__init__" qual (defArgs st) (defBody st) (defScope st) .none kV doc pm an cdv ct cc) cdv ∧ PySem.W.findIn K (.ref C) "__init__" = some (some (.ref fi)) ∧ PySem.W.typeIn K (.ref fi) = some (.type "function") ∧ PySem.W.codeIn K cdv qual = true
  no : ∀ f ∈ fs, PySem.W.findIn K (.ref C) f = some none
theorem ExP.mk' {K : PySem.W.Frag} {x : CN} {C : Addr} (nm : NmC K x C) (exC : PySem.W.subIn K (.ref C) (.type "BaseException") = some true) (hd : PySem.W.hasDictIn K C = true) (ty : PySem.W.typeIn K (.ref C) = some (.type "type")) (kp : PySem.W.keepIn K (.ref C) = true)
    (self : PySem.W.subIn K (.ref C) (.ref C) = some true) (ga : PySem.W.findIn K (.ref C) "__getattribute__" = some (some (.builtin "BaseException.__getattribute__"))) (gg : PySem.W.findIn K (.ref C) "__getattr__" = some none) (cl : PySem.W.findIn K (.ref C) "__class__" = some (some (.builtin "object.__class__"))) (ob : PySem.W.mroIn K C (.type "object") = some true) : ∃ C, ExP K x C :=
  ⟨C, nm, exC, hd, ty, kp, self, ga, gg, cl, ob⟩
theorem ExN.mk' {K : PySem.W.Frag} {x : CN} {C : Addr} (nm : NmC K x C) (exC : PySem.W.subIn K (.ref C) (.type "BaseException") = some true) (hd : PySem.W.hasDictIn K C = true) (ty : PySem.W.typeIn K (.ref C) = some (.type "type")) (kp : PySem.W.keepIn K (.ref C) = true)
    (self : PySem.W.subIn K (.ref C) (.ref C) = some true) (ga : PySem.W.findIn K (.ref C) "__getattribute__" = some (some (.builtin "BaseException.__getattribute__"))) (gg : PySem.W.findIn K (.ref C) "__getattr__" = some none) (cl : PySem.W.findIn K (.ref C) "__class__" = some (some (.builtin "object.__class__"))) (ob : PySem.W.mroIn K C (.type "object") = some true)
    (q : PySem.W.excIn K C PySem.HandSPX.veTail "ValueError.__new__" = true) : ∃ C, ExN K x C :=
  ⟨C, ⟨nm, exC, hd, ty, kp, self, ga, gg, cl, ob⟩, q⟩
theorem ExI.mk' {K : PySem.W.Frag} {P : Program} {x : CN} {qual : Str} {st : Stmt} {fs : List Str} {C N fi cc cda : Addr} {nm q : Str} {bs bm : List Value} {sn : List Str} {sub : List Value} {ab : Bool} {col : Option Bool} {dd : Option Addr} {k0 k1 k2 k3 k5 : Option Value} {oc1 oc2 oc3 : Value} {od1 od2 od3 : Option Addr} {os1 os2 os3 : Array (Option Value)} {kV doc pm ct : Value} {an : Option Addr} {vs : Array Value} {tf : Tok}
    (nm_ : NmC K x C) (exC : PySem.W.subIn K (.ref C) (.type "BaseException") = some true) (hd : PySem.W.hasDictIn K C = true) (ty : PySem.W.typeIn K (.ref C) = some (.type "type")) (kp : PySem.W.keepIn K (.ref C) = true)
    (self : PySem.W.subIn K (.ref C) (.ref C) = some true) (ga : PySem.W.findIn K (.ref C) "__getattribute__" = some (some (.builtin "BaseException.__getattribute__"))) (gg : PySem.W.findIn K (.ref C) "__getattr__" = some none) (cl : PySem.W.findIn K (.ref C) "__class__" = some (some (.builtin "object.__class__"))) (ob : PySem.W.mroIn K C (.type "object") = some true)
    (lkC : K.lookup C = some (excClassObj nm q C N bs bm true sn sub ab col dd k0 k1 k2 k3 k5 "ValueError.__new__")) (hbm : PySem.HandSPX.refsVE bm = true)
    (sa : PySem.W.findIn K (.ref C) "__setattr__" = some (some (.builtin "object.__setattr__")))
    (iC : PySem.W.findIn K (.ref C) "__init__" = some (some (.ref fi))) (tI : PySem.W.typeIn K (.ref fi) = some (.type "function"))
    (lkf : K.lookup fi = some ⟨oc1, od1, .func (PySem.W.ksFn "__init__" qual (defArgs st) (defBody st) (defScope st) .none kV doc pm an (.ref cda) ct cc), os1⟩)
    (lkc : K.lookup cc = some ⟨oc2, od2, .cell (some (.ref C)), os2⟩) (cdI : PySem.W.codeIn K (.ref cda) qual = true)
    (lkd : K.lookup cda = some ⟨oc3, od3, .fields vs, os3⟩) (hvs : vs[2]? = some (.str P.main.file tf))
    (mrC : PySem.W.mroIn K C (.ref C) = some true) (sV : PySem.W.subIn K (.ref C) (.type "ValueError") = some true) (sup : PySem.W.nsIn K mainGlobals "super" = some none) (opq : PySem.W.nsIn K cStatics "thirdparty.any" = some none)
    (ini : PySem.W.ks_superIn K C C "__init__" = some (some (.builtin "ValueError.__init__"))) (top : (P.main.scope.names.lookup ("super" : Str)).isSome = false)
    (no : ∀ f ∈ fs, PySem.W.findIn K (.ref C) f = some none) : ∃ C, ExI K P x qual st fs C := by
  refine ⟨C, ⟨nm_, exC, hd, ty, kp, self, ga, gg, cl, ob⟩, ⟨fi, cc, .ref cda, kV, doc, pm, an, ct, ⟨⟨⟨nm, q, N, bs, bm, sn, sub, ab, col, dd, k0, k1, k2, k3, k5, lkC, hbm⟩, sa, exC, ty, kp⟩, ⟨_, _, _, lkf⟩, ⟨_, _, _, lkc⟩, ⟨cda, _, _, _, vs, tf, rfl, lkd, hvs⟩, mrC, sV, sup, opq, ini, top⟩, iC, tI, cdI⟩, no⟩
/-- one field's premise -/
theorem no1 {K : PySem.W.Frag} {C : Addr} {f : Str} (h : PySem.W.findIn K (.ref C) f = some none) : ∀ g ∈ [f], PySem.W.findIn K (.ref C) g = some none := fun g hg => by
  rcases List.mem_singleton.mp hg
  exact h
theorem no3 {K : PySem.W.Frag} {C : Addr} {f1 f2 f3 : Str} (h1 : PySem.W.findIn K (.ref C) f1 = some none) (h2 : PySem.W.findIn K (.ref C) f2 = some none) (h3 : PySem.W.findIn K (.ref C) f3 = some none) : ∀ g ∈ [f1, f2, f3], PySem.W.findIn K (.ref C) g = some none := fun g hg => by
  simp at hg
  rcases hg with rfl | rfl | rfl
  · exact h1
  · exact h2
  · exact h3
/-- its __init__ walked -/
structure ExM (P : Program) (w : World) (K : PySem.W.Frag) (mg : Str → Option Value) (base : Heap) (x : CN) (fs : List Str) (C fi : Addr) (fd : FuncData) (ps : List Str) : Prop where
  p : ExP K x C
  oex : OexC K C
  iC : PySem.W.findIn K (.ref C) "__init__" = some (some (.ref fi))
  tI : PySem.W.typeIn K (.ref fi) = some (.type "function")
  fn : FnOk P w K mg base CX0 1 fi fd ps (IX.iniSp C fs fmtW)
  fh : L2H.FnH P w K mg base CX0 1 fi fd ps (IX.iniSp C fs fmtW)
  b : Binds K fd ps []
  no : ∀ f ∈ fs, PySem.W.findIn K (.ref C) f = some none
theorem ExI.walk {P : Program} {w : World} {K : PySem.W.Frag} {mg : Str → Option Value} {base : Heap} {x : CN} {qual : Str} {st : Stmt} {fs N ps : List Str} {C : Addr} {ar : Arg} {e : Expr} {p0 p1 p2 p3 p4 : Pos} {rest : List Stmt} (h : ExI K P x qual st fs C)
    (hbd : defBody st = .Expr (.Call (.Attribute (.Call (.Name "super" p0) [] [] p1) "__init__" p2) [e] [] p3) p4 :: rest) (S : IX.FnScopeS N ps (defScope st)) (hp : ((defArgs st).posonlyargs ++ (defArgs st).args).head? = some ar) (hps : ps[0]? = some ar.arg) (hpl : ps.length = fs.length + 1)
    (hB : ∀ (fi cc : Addr) (cdv : Value), OexC K C → (∀ f ∈ fs, PySem.W.findIn K (.ref C) f = some none) → IX.IniB P w K mg base N qual (defScope st) fi C cc cdv fs fmtW e rest p0 p1 p2 p3 p4)
    (hb : ∀ (fi : Addr) (fd : FuncData), (∃ kV doc pm an ct cdv cc, fd = PySem.W.ksFn "__init__" qual (defArgs st) (defBody st) (defScope st) .none kV doc pm an cdv ct cc) → Binds K fd ps []) : ∃ fi fd, ExM P w K mg base x fs C fi fd ps := by
  obtain ⟨p, ⟨fi, cc, cdv, kV, doc, pm, an, ct, ic, iC, tI, cd⟩, no⟩ := h
  obtain ⟨f1, f2⟩ := IX.ini_fn (CX := CX0) (k := 0) (mg := mg) (base := base) (w := w) (fmt := fmtW) hbd ic cd S hp hps hpl (hB fi cc cdv ic.oex no)
  exact ⟨fi, _, p, ic.oex, iC, tI, f1, f2, hb fi _ ⟨kV, doc, pm, an, ct, cdv, cc, rfl⟩, no⟩

/-- def __init__(self, x): super().__init__(the text ahead of it); self.g = x -/
theorem ExI.walkA {P : Program} {w : World} {K : PySem.W.Frag} {mg : Str → Option Value} {base : Heap} {cn : CN} {qual x g c1 : Str} {st : Stmt} {C : Addr} {a0 : Arg} {p0 p1 p2 p3 p4 q0 q1 q2 q3 r1 r2 r3 r4 : Pos} {j1 : Nat} (h : ExI K P cn qual st [g] C)
    (hbd : defBody st = [.Expr (.Call (.Attribute (.Call (.Name "super" p0) [] [] p1) "__init__" p2) [.JoinedStr [.Constant (.str c1) j1 q0, .FormattedValue (.Name x q1) (-1) none q2] q3] [] p3) p4, .Assign [.Attribute (.Name "self" r2) g r3] (.Name x r1) r4])
    (S : IX.FnScopeS ["self", x] ["self", x] (defScope st)) (hp : ((defArgs st).posonlyargs ++ (defArgs st).args).head? = some a0) (ha : a0.arg = "self") (hc1 : c1.length ≤ 1000)
    (xd : (x == ("__debug__" : Str)) = false) (xc : (x == ("__classdict__" : Str)) = false)
    (hcall : ∀ (L f cc : Addr) (cdv : Value), ∃ pl : Sem Bool, eval (.Call (.Attribute (.Call (.Name "super" p0) [] [] p1) "__init__" p2) [.JoinedStr [.Constant (.str c1) j1 q0, .FormattedValue (.Name x q1) (-1) none q2] q3] [] p3) (PySem.W.ksEnv qual (defScope st) L f cdv cc) = (do
      let ov ← attributeBase (.Call (.Name "super" p0) [] [] p1) "__init__" (PySem.W.ksEnv qual (defScope st) L f cdv cc) (eval (.Call (.Name "super" p0) [] [] p1) (PySem.W.ksEnv qual (defScope st) L f cdv cc))
      standAt p2.atName
      let (fx, first) ← holding [ov] (getMethod ov "__init__" pl)
      callWith p3 fx first (backTo p3 (starEach [.JoinedStr [.Constant (.str c1) j1 q0, .FormattedValue (.Name x q1) (-1) none q2] q3] (PySem.W.ksEnv qual (defScope st) L f cdv cc))) []))
    (hsw : ∀ (L f cc : Addr) (cdv : Value), swapsWith (.Call (.Attribute (.Call (.Name "super" p0) [] [] p1) "__init__" p2) [.JoinedStr [.Constant (.str c1) j1 q0, .FormattedValue (.Name x q1) (-1) none q2] q3] [] p3) none p4.line (PySem.W.ksEnv qual (defScope st) L f cdv cc) = pure false)
    (hst : ∀ (L f cc : Addr) (cdv : Value), starEach [.JoinedStr [.Constant (.str c1) j1 q0, .FormattedValue (.Name x q1) (-1) none q2] q3] (PySem.W.ksEnv qual (defScope st) L f cdv cc) = [(false, eval (.JoinedStr [.Constant (.str c1) j1 q0, .FormattedValue (.Name x q1) (-1) none q2] q3) (PySem.W.ksEnv qual (defScope st) L f cdv cc))])
    (hsw2 : ∀ (L f cc : Addr) (cdv : Value), swapsWith (.Name x r1) (some (.Attribute (.Name "self" r2) g r3)) r4.line (PySem.W.ksEnv qual (defScope st) L f cdv cc) = pure false)
    (hb : ∀ (fi : Addr) (fd : FuncData), (∃ kV doc pm an ct cdv cc, fd = PySem.W.ksFn "__init__" qual (defArgs st) (defBody st) (defScope st) .none kV doc pm an cdv ct cc) → Binds K fd ["self", x] []) : ∃ fi fd, ExM P w K mg base cn [g] C fi fd ["self", x] :=
  h.walk hbd S hp (by rw [ha]; rfl) rfl (fun fi cc cdv T no => ⟨IX.ini_fmtA xd xc (S.par x (by simp)) hc1, IX.ini_rest1 xd xc T (no g (by simp)) (S.par "self" (by simp)) (S.par x (by simp)) (fun L => hsw2 L fi cc cdv), fun L => hcall L fi cc cdv, fun L => hsw L fi cc cdv, fun L => hst L fi cc cdv⟩) hb
/-- def __init__(self, x): super().__init__(f'c1{x}c2'); self.g = x -/
theorem ExI.walkB {P : Program} {w : World} {K : PySem.W.Frag} {mg : Str → Option Value} {base : Heap} {cn : CN} {qual x g c1 c2 : Str} {st : Stmt} {C : Addr} {a0 : Arg} {p0 p1 p2 p3 p4 q0 q1 q2 q3 q4 r1 r2 r3 r4 : Pos} {j1 j2 : Nat} (h : ExI K P cn qual st [g] C)
    (hbd : defBody st = [.Expr (.Call (.Attribute (.Call (.Name "super" p0) [] [] p1) "__init__" p2) [.JoinedStr [.Constant (.str c1) j1 q0, .FormattedValue (.Name x q1) (-1) none q2, .Constant (.str c2) j2 q4] q3] [] p3) p4, .Assign [.Attribute (.Name "self" r2) g r3] (.Name x r1) r4])
    (S : IX.FnScopeS ["self", x] ["self", x] (defScope st)) (hp : ((defArgs st).posonlyargs ++ (defArgs st).args).head? = some a0) (ha : a0.arg = "self") (hc1 : c1.length ≤ 1000) (hc2 : c2.length ≤ 1000)
    (xd : (x == ("__debug__" : Str)) = false) (xc : (x == ("__classdict__" : Str)) = false)
    (hcall : ∀ (L f cc : Addr) (cdv : Value), ∃ pl : Sem Bool, eval (.Call (.Attribute (.Call (.Name "super" p0) [] [] p1) "__init__" p2) [.JoinedStr [.Constant (.str c1) j1 q0, .FormattedValue (.Name x q1) (-1) none q2, .Constant (.str c2) j2 q4] q3] [] p3) (PySem.W.ksEnv qual (defScope st) L f cdv cc) = (do
      let ov ← attributeBase (.Call (.Name "super" p0) [] [] p1) "__init__" (PySem.W.ksEnv qual (defScope st) L f cdv cc) (eval (.Call (.Name "super" p0) [] [] p1) (PySem.W.ksEnv qual (defScope st) L f cdv cc))
      standAt p2.atName
      let (fx, first) ← holding [ov] (getMethod ov "__init__" pl)
      callWith p3 fx first (backTo p3 (starEach [.JoinedStr [.Constant (.str c1) j1 q0, .FormattedValue (.Name x q1) (-1) none q2, .Constant (.str c2) j2 q4] q3] (PySem.W.ksEnv qual (defScope st) L f cdv cc))) []))
    (hsw : ∀ (L f cc : Addr) (cdv : Value), swapsWith (.Call (.Attribute (.Call (.Name "super" p0) [] [] p1) "__init__" p2) [.JoinedStr [.Constant (.str c1) j1 q0, .FormattedValue (.Name x q1) (-1) none q2, .Constant (.str c2) j2 q4] q3] [] p3) none p4.line (PySem.W.ksEnv qual (defScope st) L f cdv cc) = pure false)
    (hst : ∀ (L f cc : Addr) (cdv : Value), starEach [.JoinedStr [.Constant (.str c1) j1 q0, .FormattedValue (.Name x q1) (-1) none q2, .Constant (.str c2) j2 q4] q3] (PySem.W.ksEnv qual (defScope st) L f cdv cc) = [(false, eval (.JoinedStr [.Constant (.str c1) j1 q0, .FormattedValue (.Name x q1) (-1) none q2, .Constant (.str c2) j2 q4] q3) (PySem.W.ksEnv qual (defScope st) L f cdv cc))])
    (hsw2 : ∀ (L f cc : Addr) (cdv : Value), swapsWith (.Name x r1) (some (.Attribute (.Name "self" r2) g r3)) r4.line (PySem.W.ksEnv qual (defScope st) L f cdv cc) = pure false)
    (hb : ∀ (fi : Addr) (fd : FuncData), (∃ kV doc pm an ct cdv cc, fd = PySem.W.ksFn "__init__" qual (defArgs st) (defBody st) (defScope st) .none kV doc pm an cdv ct cc) → Binds K fd ["self", x] []) : ∃ fi fd, ExM P w K mg base cn [g] C fi fd ["self", x] :=
  h.walk hbd S hp (by rw [ha]; rfl) rfl (fun fi cc cdv T no => ⟨IX.ini_fmtB xd xc (S.par x (by simp)) hc1 hc2, IX.ini_rest1 xd xc T (no g (by simp)) (S.par "self" (by simp)) (S.par x (by simp)) (fun L => hsw2 L fi cc cdv), fun L => hcall L fi cc cdv, fun L => hsw L fi cc cdv, fun L => hst L fi cc cdv⟩) hb
/-! ### raise C(e, ..) -/
section
variable {X : Cx} {W : L2.St → XK} {e : Expr} {es : List Expr} {p p2 pos : Pos} {ws : WA} {la : TA} {x : CN} {fs ps : List Str} {C fi : Addr} {fd : FuncData}
theorem pmk_oexN (M : ExM X.prog X.w X.K X.mg X.base x fs C fi fd ps) (hr : Room 2 X.A) (hg : Gl X x.s) (hm : X.mg x.s = some (.ref C)) (ha : PA X (e :: es) la)
    (hdb : (x.s == ("__debug__" : Str)) = false) (he : starEach (e :: es) X.env = (false, eval e X.env) :: starEach es X.env := by rfl) (hpl : (backTo p2 (starEach es X.env)).any (·.1) = false := by rfl) :
    L2N.PMk X (.Call (.Name x.s p) (e :: es) [] p2) (tMkO C (IX.iniSp C fs fmtW) [] la) := by
  intro pins s σ H Q I h
  obtain ⟨nm, q, N, bs, bm, sn, sub, ab, col, dd, k0, k1, k2, k3, k5, hC, hbm⟩ := M.oex.cls
  refine wpAny_Call_Name_kw (ld_glob I hg hm ?_ hdb)
  refine PySem.W.callWith_K (h₀ := X.base) I.ok.mod.kin M.oex.kC (thn (ha.run p2 pins s σ H _ I h) fun us s1 ⟨vs, H1, I1, r1, hz, q1⟩ => ⟨I1.kIn, ?_⟩) he hpl
  show wpAny _ _ (call (.ref C) us) _ _ _
  obtain ⟨hp, g, dr, tk, os⟩ := s1
  have hsz : hp.objs.size ≤ hp.objs.size + 1 := Nat.le_succ _
  have hn : H1 (hp.objs.size + 1) = none := I1.hok.fresh hsz
  have hq := q1 (hp.objs.size + 1) hn
  have kk : ∀ b o, hp.get? b = some o → ((hp.push (PySem.W.kdv_tup us)).push (PySem.HandSPX.excO C hp.objs.size)).get? b = some o := fun b o e => Heap.get?_push_of_some _ (Heap.get?_push_of_some _ e)
  have hget : ((hp.push (PySem.W.kdv_tup us)).push (PySem.HandSPX.excO C hp.objs.size)).get? (hp.objs.size + 1) = some (PySem.HandSPX.excO C hp.objs.size) := by heap_get
  have I2 : Inv X pins σ (upd H1 (hp.objs.size + 1) (exo (hp.objs.size + 1) C none)) ⟨(hp.push (PySem.W.kdv_tup us)).push (PySem.HandSPX.excO C hp.objs.size), g, dr, tk, os⟩ :=
    I1.laid (t' := tk) (a := hp.objs.size + 1) (o := exo (hp.objs.size + 1) C none) (h' := (hp.push (PySem.W.kdv_tup us)).push (PySem.HandSPX.excO C hp.objs.size)) kk hsz (exo_ok hget)
  have r2 : Vals (V.ref (hp.objs.size + 1) :: (vs ++ [])) (Value.ref (hp.objs.size + 1) :: (us ++ [])) := .cons rfl (r1.append .nil)
  have hl : (Value.ref (hp.objs.size + 1) :: us ++ []).length = ps.length := by
    have e := r2.length
    rw [M.fn.len _ _ _ _ hq] at e
    exact e.symm
  have hus : us.length ≤ sizeLine := by
    rw [← Paired.length r1, sizeLine_eq]
    omega
  refine wpAny_call (PySem.HandSPX.call_own F.excBase_ValueError (fun Y => PySem.HandSPX.refsVE_contains Y bm hbm) (I1.kIn _ _ hC) (PySem.W.looks_findIn I1.kIn M.iC) (fun self => PySem.W.bind_fn I1.kIn self M.tI) hus
    (codeAny_mono (M.fn.run _ X.stack _ _ ⟨Value.ref (hp.objs.size + 1) :: us, []⟩ (Value.ref (hp.objs.size + 1) :: (us ++ [])) _ _ (fun _ _ _ => False) (hr.make C us []) (I2.env0.make C us []) (by have hb2 := M.b ⟨(hp.push (PySem.W.kdv_tup us)).push (PySem.HandSPX.excO C hp.objs.size), g, dr, tk, os⟩ (Value.ref (hp.objs.size + 1) :: us) I2.kIn hl; rw [List.append_nil] at hb2 ⊢; exact hb2) r2 hq) fun r s' hq' => ?_))
  cases r with
  | error er => exact pass0 pins σ _ _ er s' I2 hq'
  | ok fl =>
    cases fl with
    | ret u =>
      obtain ⟨v, H2, os2, bare2, un2, hok2, rv, ev, d, fs, ea, ed, hd1, q2⟩ := hq'
      subst ev
      obtain ⟨h2, g2, d2, t2, os'⟩ := s'
      obtain ⟨t0, G, J, kG, ge, hoe, na⟩ := mk_end0 (d2 := d2) (t2 := t2) I1 hsz kk un2 hok2 os2 bare2 ea ed hd1
      exact ⟨rv, ⟨hp.objs.size + 1, _, _, ⟨G, g2, d2, t2, os'⟩, _, .ref C, some d, rfl, J, kG, ge, hoe, ⟨rfl, rfl, fun vs hv => by cases hv; rfl⟩, rfl, rfl, na, rfl, bare2, raises_own M.oex.exC M.oex.tyC, q2⟩⟩
    | next => exact False.elim hq'
    | brk => exact False.elim hq'
    | cont => exact False.elim hq'
theorem pmk_l {X : Cx} {e : Expr} {t : L2.St → Hp → XK → Prop} (h : L2N.PMk X e t) : PMk X e t := fun pins s σ H Q I q => thn (h pins s σ H Q I q) fun u s' ⟨a, oe, vs, sI, H', cls, d, h1, h2, h3, h4, h5, h6, h7⟩ => ⟨a, oe, vs, sI, H', cls, d, h1, h2, h3, h4, h5, h6.zc, h7⟩
theorem ss_raiseN (M : ExM X.prog X.w X.K X.mg X.base x fs C fi fd ps) (hr : Room 2 X.A) (hc : X.calm = true) (tk : L2N.Takes X (WXof W)) (hg : Gl X x.s) (hm : X.mg x.s = some (.ref C)) (ha : SA X W (e :: es) la ws)
    (hfl : fs.length ≤ 900 := by decide) (hdb : (x.s == ("__debug__" : Str)) = false := by decide) (he : starEach (e :: es) X.env = (false, eval e X.env) :: starEach es X.env := by rfl) (hpl : (backTo p2 (starEach es X.env)).any (·.1) = false := by rfl) :
    SS X W (.Raise (some (.Call (.Name x.s p) (e :: es) [] p2)) none pos) (tRaise W C fs la) (wRaise x fs ws) :=
  ss_raise (L2N.ps_raise hc tk (pmk_oexN M hr hg hm ha.1 hdb he hpl)) ha M.p.nm hfl
theorem ss_raiseL (M : ExM X.prog X.w X.K X.mg X.base x fs C fi fd ps) (hr : Room 2 X.A) (hc : X.calm = true) (tk : L2.Takes X (WXof W)) (hg : Gl X x.s) (hm : X.mg x.s = some (.ref C)) (ha : SA X W (e :: es) la ws)
    (hfl : fs.length ≤ 900 := by decide) (hdb : (x.s == ("__debug__" : Str)) = false := by decide) (he : starEach (e :: es) X.env = (false, eval e X.env) :: starEach es X.env := by rfl) (hpl : (backTo p2 (starEach es X.env)).any (·.1) = false := by rfl) :
    SS X W (.Raise (some (.Call (.Name x.s p) (e :: es) [] p2)) none pos) (tRaise W C fs la) (wRaise x fs ws) :=
  ss_raise (ps_raise hc tk (pmk_l (pmk_oexN M hr hg hm ha.1 hdb he hpl))) ha M.p.nm hfl
/-- raise C(e, ..) from None, in an except suite -/
theorem ss_raiseH {j : Nat} {cpos : Pos} (M : ExM X.prog X.w X.K X.mg X.base x fs C fi fd ps) (hr : L2H.RoomH 2 X.A) (hc : L2H.HotC X) (tk : L2.Takes X (WXof W)) (hg : Gl X x.s) (hm : X.mg x.s = some (.ref C)) (ha : SA X W (e :: es) la ws)
    (hfl : fs.length ≤ 900 := by decide) (hdb : (x.s == ("__debug__" : Str)) = false := by decide) (he : starEach (e :: es) X.env = (false, eval e X.env) :: starEach es X.env := by rfl) (hpl : (backTo p2 (starEach es X.env)).any (·.1) = false := by rfl) :
    SS X W (.Raise (some (.Call (.Name x.s p) (e :: es) [] p2)) (some (.Constant .none j cpos)) pos) (tRaise W C fs la) (wRaise x fs ws) :=
  ss_raise (L2H.ps_raiseHN hc tk (L2H.pmk5_oexH M.oex M.iC M.tI M.fh hr hc M.b pass0 hg hm ha.1 hdb he hpl)) ha M.p.nm hfl
/-- raise C('text'), C without __init__ -/
theorem ss_raiseTN {m : Str} {j : Nat} {p3 : Pos} (n : ExN X.K x C) (hc : X.calm = true) (tk : L2N.Takes X (WXof W)) (hg : Gl X x.s) (hm : X.mg x.s = some (.ref C)) (hdb : (x.s == ("__debug__" : Str)) = false := by decide) :
    SS X W (.Raise (some (.Call (.Name x.s p) [.Constant (.str m) j p3] [] p2)) none pos) (tRaise0 W C) (wRaise0 x) :=
  ss_raise0 (L2N.ps_raise hc tk (L2N.pmk_own F.excBase_ValueError n.q hm n.p.kp n.p.raises hg hdb)) n.p.nm
theorem ss_raiseTL {m : Str} {j : Nat} {p3 : Pos} (n : ExN X.K x C) (hc : X.calm = true) (tk : L2.Takes X (WXof W)) (hg : Gl X x.s) (hm : X.mg x.s = some (.ref C)) (hdb : (x.s == ("__debug__" : Str)) = false := by decide) :
    SS X W (.Raise (some (.Call (.Name x.s p) [.Constant (.str m) j p3] [] p2)) none pos) (tRaise0 W C) (wRaise0 x) :=
  ss_raise0 (ps_raise hc tk (pmk_own F.excBase_ValueError n.q hm n.p.kp n.p.raises hg hdb)) n.p.nm
end
/-! ### products of large ints -/
def dMulW : DOp := fun x y k => match x, y with | .int i, .int j => CMulW i j ∧ k (.dat (.int (i * j))) | _, _ => False
theorem dMulW_ok {K : PySem.W.Frag} : OpS K (rI CMulW fun i j => .int (i * j)) dMulW := OpS.int
theorem cmulw {i j : Int} (h1 : i.natAbs < 2 ^ 900) (h2 : j.natAbs < 2 ^ 900) : CMulW i j := by
  unfold CMulW
  have a1 : i.natAbs.log2 < 900 := by
    by_cases z : i.natAbs = 0
    · rw [z]; decide
    · exact (Nat.log2_lt z).mpr h1
  have a2 : j.natAbs.log2 < 900 := by
    by_cases z : j.natAbs = 0
    · rw [z]; decide
    · exact (Nat.log2_lt z).mpr h2
  omega
end DS

/-! x.replace(y, z, 1) where a text was written ahead of it; tuples of texts of the module. -/
namespace DS
open PySem PySem.Spec PyProof.Rows L2
/-- replace, the first place alone -/
def repl1 (x y z : Str) : Str :=
  if ((Builtin.Str.occurrences x y 0 x.length 1).isEmpty || (y.length == 0 && z.length == 0)) = true then x
  else Builtin.Str.glued z (Builtin.Str.partsBetween x (Builtin.Str.occurrences x y 0 x.length 1) y.length)
theorem glued1_le (x y z : Str) : (Builtin.Str.glued z (Builtin.Str.partsBetween x (Builtin.Str.occurrences x y 0 x.length 1) y.length)).length ≤ x.length + z.length := by
  have h1 := StrLaws.occ_length_le x y 0 x.length 1
  have hy : (Builtin.Str.glued y (Builtin.Str.partsBetween x (Builtin.Str.occurrences x y 0 x.length 1) y.length)).length = x.length := by rw [StrLaws.glued_between_self]
  rw [size_glued, length_partsBetween, Nat.add_sub_cancel] at hy
  rw [size_glued, length_partsBetween, Nat.add_sub_cancel]
  have h2 : (Builtin.Str.occurrences x y 0 x.length 1).length * z.length ≤ 1 * z.length := Nat.mul_le_mul_right _ h1
  omega
theorem repl1_le (x y z : Str) : (repl1 x y z).length ≤ x.length + z.length := by
  unfold repl1
  split
  · omega
  · exact glued1_le x y z
open Builtin Builtin.Str in
theorem gives_repl1 (x y z : Str) (t u v k : Tok) (h0 : (u == 0 || v == 0) = false) (huv : (u == v) = false) (hyz : (y == z) = false) (hl : Builtin.Str.tooLong (x.length + (Builtin.Str.occurrences x y 0 x.length 1).length * z.length) = false) :
    Gives (Builtin.«str.replace» ⟨[.str x t, .str y u, .str z v, .int 1 k], []⟩) (if ((Builtin.Str.occurrences x y 0 x.length 1).isEmpty || (y.length == 0 && z.length == 0)) = true then .val (.str x t) else .str (Builtin.Str.glued z (Builtin.Str.partsBetween x (Builtin.Str.occurrences x y 0 x.length 1) y.length))) := by
  show Gives (if ((Builtin.Str.occurrences x y 0 x.length 1).isEmpty || (y.length == 0 && z.length == 0)) = true then (do rule "str.replace.nothing"; ret (.str x t)) else
          (do let same ← isSame (.str y u) (.str z v)
              if same = true then (do rule "str.replace.old-is-new"; ret (.str x t)) else
              if Builtin.Str.tooLong (x.length + (Builtin.Str.occurrences x y 0 x.length 1).length * z.length) = true then unsupported "str.replace:memory" else
              retStr (Builtin.Str.glued z (Builtin.Str.partsBetween x (Builtin.Str.occurrences x y 0 x.length 1) y.length)))) _
  cases hc : ((Builtin.Str.occurrences x y 0 x.length 1).isEmpty || (y.length == 0 && z.length == 0))
  · rw [isSame_str_other y z u v h0 huv hyz, hl]
    exact .of_eq rfl
  · exact .rule (.of_eq rfl)
theorem sc_repl1 {prog : Program} {w : World} {A : Around} {E : Value → Shared → Prop} {s : Shared} {x y z : Str} {t u v k : Tok} {Q : Value → Shared → Prop} (hu : u ≠ 0) (hv : v ≠ 0) (huv : u ≠ v) (hyz : (y == z) = false) (hb : x.length + z.length ≤ 16777216)
    (hq : ∀ t' k, Q (.str (repl1 x y z) t') { s with toks := k }) : wpAny (model prog w) A (call (.builtin "str.replace") [.str x t, .str y u, .str z v, .int 1 k]) Q E s := by
  have e : (2 : Nat) ^ 24 = 16777216 := by decide
  have hl : Builtin.Str.tooLong (x.length + (Builtin.Str.occurrences x y 0 x.length 1).length * z.length) = false := by
    have h1 := StrLaws.occ_length_le x y 0 x.length 1
    have h2 : (Builtin.Str.occurrences x y 0 x.length 1).length * z.length ≤ 1 * z.length := Nat.mul_le_mul_right _ h1
    unfold Builtin.Str.tooLong sizeLine
    exact decide_eq_false (by omega)
  refine call_gives F.slot_str_replace (typeIs_str _ _ _) F.entry_str_replace (F.args_str_replace_4 _ _ _ _)
    (gives_repl1 x y z t u v k (by simp [hu, hv]) (by simp [huv]) hyz hl) ?_
  have hq' := hq
  unfold repl1 at hq'
  cases hc : ((Builtin.Str.occurrences x y 0 x.length 1).isEmpty || (y.length == 0 && z.length == 0))
  · rw [hc] at hq'
    simp only [Bool.false_eq_true, if_false] at hq' ⊢
    exact ⟨by rw [sizeLine_eq]; exact Nat.le_trans (glued1_le x y z) hb, hq' _ _⟩
  · rw [hc] at hq'
    simp only [if_true] at hq' ⊢
    exact hq' t s.toks
theorem Call_method3 {prog : Program} {w : World} {A : Around} {E : Value → Shared → Prop} {s : Shared} {env : Env} {o e₁ e₂ e₃ : Expr} {name : Str} {apos pos : Pos} {Q : Value → Shared → Prop}
    (hbase : attributeBase o name env (eval o env) = eval o env) (hs : starEach [e₁, e₂, e₃] env = [(false, eval e₁ env), (false, eval e₂ env), (false, eval e₃ env)]) (hline : (apos.endLine == pos.line) = true)
    (h : wpAny (model prog w) A (eval o env) (fun ov s₁ => MethodOnS prog w A E name ov pos [(false, eval e₁ env), (false, eval e₂ env), (false, eval e₃ env)] Q s₁) E s) :
    wpAny (model prog w) A (eval (.Call (.Attribute o name apos) [e₁, e₂, e₃] [] pos) env) Q E s := by
  refine wpAny_Call_method_lateS hbase (by rw [hs]; rfl) hline ?_
  rw [hs]; exact h
def tRepl1 (to : TE) (y z : Str) : TE := fun σ H Q => to σ H fun v H1 => ∃ x, v = .str x ∧ x.length + z.length ≤ 16777216 ∧ Q (.str (repl1 x y z)) H1
section
variable {X : Cx} {W : L2.St → XK} {o e : Expr} {te to : TE} {y z a : Str} {j k l : Nat} {c0 c1 c2 apos pos p : Pos} {we wo : WE}
theorem pet_repl1 (ho : PE X o to) (hyz : (y == z) = false := by decide)
    (hst : starEach [.Constant (.str y) j c0, .Constant (.str z) k c1, .Constant (.int 1) l c2] X.env = [(false, eval (.Constant (.str y) j c0) X.env), (false, eval (.Constant (.str z) k c1) X.env), (false, eval (.Constant (.int 1) l c2) X.env)] := by rfl)
    (hbase : attributeBase o "replace" X.env (eval o X.env) = eval o X.env := by rfl) (hline : (apos.endLine == pos.line) = true := by rfl) :
    PET X (.Call (.Attribute o "replace" apos) [.Constant (.str y) j c0, .Constant (.str z) k c1, .Constant (.int 1) l c2] [] pos) (tRepl1 to y z) := by
  intro pins s σ H Q h0 I h
  refine Call_method3 hbase hst hline (wpAny_mono (PySem.wpAny_toks (ho.run pins s σ H _ I h)) (fun v s1 q => ?_) fun _ _ z => z.2)
  obtain ⟨hk, v', H1, I1, r1, x, e1, hb, q⟩ := q
  subst e1
  obtain ⟨tx, e2⟩ := r1
  subst e2
  refine ⟨"str", _, PySem.F.plainAttrs_str, PySem.F.slot_str_replace, PySem.F.type_str_replace, typeIs_str _ _ _, (fun _ e => nomatch e), Calls.callWith_builtin rfl (Calls.evalArgs_plain (Calls.spliced_cons ?_))⟩
  refine Calls.Constant_str (Calls.spliced_cons (Calls.Constant_str (Calls.spliced_cons (wpAny_Constant_int (Calls.spliced_nil ?_)))))
  exact sc_repl1 (by show s1.toks ≠ 0; omega) (by show s1.toks + 1 ≠ 0; omega) (by show s1.toks ≠ s1.toks + 1; omega) hyz hb fun t' k => ⟨.str (repl1 x y z), H1, I1.tok k, ⟨t', rfl⟩, q⟩
def wRepl1 (w : WE) (y z : Str) : WE := fun a q qe => w a (fun r a1 => onO (con a1 r) fun d => match d with
  | .str x => x.length + z.length ≤ 16777216 ∧ q (.dat (.str (repl1 x y z))) a1
  | _ => False) qe
theorem set_repl1 (h : SE X W o te we) (hyz : (y == z) = false := by decide)
    (hst : starEach [.Constant (.str y) j c0, .Constant (.str z) k c1, .Constant (.int 1) l c2] X.env = [(false, eval (.Constant (.str y) j c0) X.env), (false, eval (.Constant (.str z) k c1) X.env), (false, eval (.Constant (.int 1) l c2) X.env)] := by rfl)
    (hbase : attributeBase o "replace" X.env (eval o X.env) = eval o X.env := by rfl) (hline : (apos.endLine == pos.line) = true := by rfl) :
    SET X W (.Call (.Attribute o "replace" apos) [.Constant (.str y) j c0, .Constant (.str z) k c1, .Constant (.int 1) l c2] [] pos) (tRepl1 te y z) (wRepl1 we y z) := by
  refine ⟨pet_repl1 h.1 hyz hst hbase hline, fun E F H σ a Q q qe R hw l lx => h.2 E F H σ a _ _ _ R hw (fun v r F' H' a' e R' rp hq => ?_) lx⟩
  obtain ⟨d, hd, hq⟩ := onO_iff.mp hq
  split at hq
  · obtain rfl := (rd_of R' rp hd).str
    exact ⟨_, rfl, hq.1, l _ (.dat _) F' H' a' e R' (Rep.str _) hq.2⟩
  · exact hq.elim
/-- behind a written text a token is out -/
theorem sa_strT (h : SET X W e te we)
    (hs : starEach [.Constant (.str a) j p, e] X.env = [(false, eval (.Constant (.str a) j p) X.env), (false, eval e X.env)] := by rfl) :
    SA X W [.Constant (.str a) j p, e] (tCons (tC (.str a)) (tCons te tNil)) (waCons (wC (.str a)) (waCons we waNil)) := by
  refine ⟨⟨fun pos pins s σ H Q I hq => ?_⟩, fun E F H σ a Q q qe R hw l lx => ?_⟩
  · rw [hs]
    show wpAny _ _ (spliced ((false, eval (.Constant (.str a) j p) X.env) :: backTo pos [(false, eval e X.env)])) _ _ s
    refine Calls.spliced_cons (Calls.Constant_str ?_)
    show wpAny _ _ (spliced ((false, eval e X.env) :: backTo pos [])) _ _ _
    refine Calls.spliced_cons (thn (h.1 pins { s with toks := s.toks + 1 } σ H _ (by show 1 ≤ s.toks + 1; omega) (I.tok _) hq) fun u s2 ⟨x, H2, I2, r2, q2⟩ => ?_)
    exact Calls.spliced_nil ⟨[.str a, x], H2, I2, .cons ⟨_, rfl⟩ (.cons r2 .nil), q2⟩
  · refine h.2 E F H σ a _ _ qe R hw (fun v1 r1 F1 H1 a1 e1 R1 rp hq => ?_) lx
    obtain ⟨F1', e1', R1', rp'⟩ := hold_ok R1 rp
    refine l [.str _, v1] [hold (.dat (.str _)), hold r1] F1' H1 a1 (e1.trans e1') R1' (.cons (Rep.str _) (.cons rp' .nil)) (fun r hr d => ?_) hq
    rcases List.mem_cons.mp hr with rfl | hr
    · exact hold_new
    · rcases List.mem_singleton.mp hr with rfl
      exact hold_new
end
/-! ### a tuple of texts of the module -/
structure GT (K : PySem.W.Frag) (mg : Str → Option Value) (x : Str) (ys : List Str) (p : Addr) : Prop where
  top : mg x = some (.ref p)
  ob : ∃ its n sl, K.lookup p = some ⟨.type "tuple", none, .seq its n, sl⟩ ∧ its.size ≤ sizeLine ∧ Vals (ys.map V.str) its.toList
theorem GT.sq {K : PySem.W.Frag} {mg : Str → Option Value} {x : Str} {ys : List Str} {p : Addr} {H : Hp} (h : GT K mg x ys p) : SqT K H p (ys.map V.str) := by
  obtain ⟨its, n, sl, h1, h2, h3⟩ := h.ob
  exact .inr ⟨_, its, n, h1, rfl, rfl, h2, h3⟩
theorem rep_strs {K : PySem.W.Frag} {F : Hp} : ∀ ys : List Str, Reps K F (ys.map V.str) (ys.map D.str)
  | [] => .nil
  | y :: ys => .cons (.str y) (rep_strs ys)
def rTIndex (K : PySem.W.Frag) : V → List V → Hp → VK → Prop := fun x xs H Q => ∃ p, ∃ ys : List Str, ∃ z j, x = V.ref p ∧ xs = [.str z] ∧ SqT K H p (ys.map V.str) ∧ ys[j]? = some z ∧ (∀ m, m < j → ys[m]? ≠ some z) ∧ Q (.int (j : Nat)) H
section
variable {X : Cx} {W : L2.St → XK} {ys : List Str} {x : Str} {pos apos cpos : Pos} {p : Addr} {e : Expr} {te : TE} {we : WE}
theorem se_globT (hg : Gl X x) (h : GT X.K X.mg x ys p) (hd : (x == ("__debug__" : Str)) = false := by decide) : SE X W (.Name x pos) (tC (.ref p)) (wC (.rot (ys.map D.str))) :=
  se_c (v := .ref p) (pe_glob hg h.top rfl hd) fun F => .rot h.sq (rep_strs ys)
/-- KINDS.index(e) -/
def wTIndex (ys : List Str) (w : WE) : WE := fun a q qe => w a (fun r a1 => onO (con a1 r) fun d => match d with
  | .str z => ∃ j : Nat, ys[j]? = some z ∧ (∀ m, m < j → ys[m]? ≠ some z) ∧ q (.dat (.int j)) a1
  | _ => False) qe
theorem se_gIndex (hg : Gl X x) (h : GT X.K X.mg x ys p) (he : SE X W e te we) (hd : (x == ("__debug__" : Str)) = false := by decide)
    (hbase : attributeBase (.Name x pos) "index" X.env (eval (.Name x pos) X.env) = eval (.Name x pos) X.env := by rfl)
    (hfew : ((backTo cpos (starEach [e] X.env)).all (fun x => !x.1) && (backToKw cpos (keywordEach [] X.env)).all (fun x => x.1.isSome)
      && decide (([e] : List Expr).length + ([] : List Keyword).length + (if ([] : List Keyword).isEmpty then 0 else 1) < 30)) = true := by rfl)
    (hline : (apos.endLine == cpos.line) = true := by rfl) (hst : starEach [e] X.env = (false, eval e X.env) :: starEach [] X.env := by rfl) (hplain : (backTo cpos (starEach [] X.env)).any (·.1) = false := by rfl) :
    SE X W (.Call (.Attribute (.Name x pos) "index" apos) [e] [] cpos) (tBM X.K "tuple" (rTIndex X.K) (tC (.ref p)) (tCons te tNil)) (wTIndex ys we) := by
  refine ⟨pe_bm PySem.F.plainAttrs_tuple PySem.F.slot_tuple_index PySem.F.type_tuple_index mt_tup_index (pe_glob hg h.top rfl hd) (pa_cons he.1 pa_nil hst) hbase hfew hline hst hplain, fun E F H σ a Q q qe R hw l lx => ?_⟩
  obtain ⟨its, n, sl, h1, h2, h3⟩ := h.ob
  refine ⟨.inr (.inl ⟨rfl, _, h1, rfl, rfl⟩), he.2 E F H σ a _ _ qe R hw (fun v1 r1 F1 H1 a1 e1 R1 rp hq => ?_) lx⟩
  obtain ⟨d, hd, hq⟩ := onO_iff.mp hq
  split at hq
  · rename_i z
    obtain rfl := (rd_of R1 rp hd).str
    obtain ⟨j, j1, j2, hq⟩ := hq
    exact ⟨p, ys, z, j, rfl, rfl, h.sq, j1, j2, l (.int j) (.dat (.int j)) F1 H1 a1 e1 R1 (Rep.int _) hq⟩
  · exact hq.elim
end
section
variable {X : Cx} {W : L2.St → XK} {pos : Pos}
/-- {c: 'text'} -/
def wDLitS (c : Int) (z : Str) : WE := fun a q _ => q (.new (.dK [(Sum.inl c, D.str z)])) a
theorem se_dlitS {c : Int} {z : Str} {kx vx : Expr} (hk : PE X kx (tC (.int c))) (hv : PE X vx (tC (.str z))) : SE X W (.Dict [some kx] [vx] pos) (tDisp [(tC (.int c), tC (.str z))]) (wDLitS c z) := by
  refine ⟨pe_disp (pps_cons hk hv pps_nil) rfl rfl (by simp) (by simp), fun E F H σ a Q q qe R hw l _ p hp => ?_⟩
  obtain ⟨f1, f2, f3⟩ := R.fresh hp
  have eu : upd (upd H p (.dK [])) p (.dK (mergeK [] [(Sum.inl c, V.str z)])) = upd H p (.dK [(Sum.inl c, V.str z)]) := by
    funext b
    by_cases hb : b = p
    · rw [hb, upd_same, upd_same]
      rfl
    · rw [upd_ne hb, upd_ne hb, upd_ne hb]
  refine ⟨upd_same, [(Sum.inl c, V.str z)], rfl, by simp, ?_⟩
  rw [eu]
  exact l (.ref p) (.new (.dK [(Sum.inl c, D.str z)])) F _ a (Same.refl F) (R.lay _ hp) ⟨p, rfl, f1, f2, ⟨_, upd_same, .dK (.cons (Rep.str _) .nil)⟩, f3⟩ hw
end
section
variable {X : Cx} {W : L2.St → XK} {e : Expr} {te : TE} {we : WE}
/-- the truth of a list, a number, a text -/
def truD (d : D) (k : Bool → Prop) : Prop := match d with
  | .non => k false
  | .bl b => k b
  | .int i => k (i != 0)
  | .str x => x.length ≤ sizeLine ∧ k ((x.length : Int) != 0)
  | .lst xs => k (!xs.isEmpty)
  | .rol xs => k (!xs.isEmpty)
  | .tup xs => k (!xs.isEmpty)
  | .rot xs => k (!xs.isEmpty)
  | _ => False
def wTru (w : WE) : WT := fun a q qe => w a (fun r a1 => onO (con a1 r) fun d => truD d fun k => q k a1) qe
theorem reps_empty {K : PySem.W.Frag} {F : Hp} {vs : List V} {ds : List D} (r : Reps K F vs ds) : vs.isEmpty = ds.isEmpty := by
  cases r <;> rfl
theorem st_tru (h : SE X W e te we) (he : ∀ whole, isTrue e X.env whole = (do let v ← whole; standAt e.pos; holding [v] (truthy v)) := by intro _; rfl) :
    ST X W e (fun σ H Q => te σ H fun x H' => ∃ k, TruV X.K x H' k ∧ Q k H') (wTru we) := by
  refine ⟨pt_truth h.1 he, fun E F H σ a Q q qe R hw l lx => h.2 E F H σ a _ _ qe R hw (fun v r F1 H1 a1 e1 R1 rp hq => ?_) lx⟩
  obtain ⟨d, hd, hq⟩ := onO_iff.mp hq
  have rd := rd_of R1 rp hd
  have fin : ∀ k, q k a1 → Q k H1 := fun k hk => l k F1 H1 a1 e1 R1 hk
  cases d with
  | non => rw [rd.non]; exact ⟨false, rfl, fin _ hq⟩
  | bl b => rw [rd.bl]; exact ⟨b, rfl, fin _ hq⟩
  | int i => rw [rd.int]; exact ⟨_, rfl, fin _ hq⟩
  | str x => rw [rd.str]; exact ⟨_, ⟨hq.1, rfl⟩, fin _ hq.2⟩
  | lst xs =>
    obtain ⟨p, vs, rfl, h2, h3⟩ := rd.lst R1.ext
    exact ⟨_, .inl ⟨vs, .of h2, rfl⟩, fin _ (by rw [reps_empty h3]; exact hq)⟩
  | rol xs =>
    obtain ⟨p, vs, rfl, h2, h3⟩ := rd.rol R1.ext
    exact ⟨_, .inl ⟨vs, h2, rfl⟩, fin _ (by rw [reps_empty h3]; exact hq)⟩
  | tup xs =>
    obtain ⟨p, vs, rfl, h2, h3⟩ := rd.tup R1.ext
    exact ⟨_, .inr (.inl ⟨vs, .of h2, rfl⟩), fin _ (by rw [reps_empty h3]; exact hq)⟩
  | rot xs =>
    obtain ⟨p, vs, rfl, h2, h3⟩ := rd.rot R1.ext
    exact ⟨_, .inr (.inl ⟨vs, h2, rfl⟩), fin _ (by rw [reps_empty h3]; exact hq)⟩
  | _ => exact hq.elim
end
end DS

/-! try with two clauses, each `except C as n`. -/
namespace DS
open PySem PySem.Spec PyProof.Rows L2
/-- the ends of a suite whose name goes when it ends -/
def goneEnds (D : Ends) (i : Nat) : Ends := { nx := fun σ H => D.nx (σ.set i none) H, rt := D.rt, bk := fun σ H => D.bk (σ.set i none) H, ct := fun σ H => D.ct (σ.set i none) H }
abbrev Cl := Value × Nat × (Addr → Value → Option Addr → TS)
/-- what the clauses wish of an exception, one after the other -/
def wAsMany (K : PySem.W.Frag) (Wout : WX) (D : Ends) : List Cl → WX
  | [] => Wout
  | (c, i, ts) :: r => fun cls d σ H => ∃ b, PySem.W.exmOne K cls c = some b ∧ (b = true → ∀ a, H a = none → ts a cls d (goneEnds D i) (σ.set i (some (.ref a))) H) ∧ (b = false → wAsMany K Wout D r cls d σ H)
inductive HdsAs (X : Cx) : List ExceptHandler → List Cl → Prop
  | nil : HdsAs X [] []
  | cons {x n : Str} {i : Nat} {c : Value} {ts : Addr → Value → Option Addr → TS} {b₀ : Stmt} {suite : List Stmt} {np pos' : Pos} {hds : List ExceptHandler} {l : List Cl} (hi : X.N[i]? = some n) (hln : X.env.kindOf n = some .local) (hc : Names X x c)
      (hsu : ∀ (a : Addr) (oe : Obj) (cls : Value) (d : Option Addr) (pn : List (Addr × Obj)), Zc cls d oe → (∃ vs, oe.data = .fields vs) → PSs (X.suite a ((a, oe) :: pn)) (b₀ :: suite) (ts a cls d)) (r : HdsAs X hds l) :
      HdsAs X (.ExceptHandler (some (.Name x np)) (some n) (b₀ :: suite) pos' :: hds) ((c, i, ts) :: l)
section
variable {X : Cx} {body : List Stmt} {h₀ : ExceptHandler} {hds : List ExceptHandler} {l : List Cl} {pos : Pos} {tb : WX → TS} {Wout : WX}
/-- several clauses with names -/
theorem ps_tryAsMany (hs : X.stack = X.env :: X.outer) (hf : X.env.frame = some X.env.locals) (hN : X.N.Nodup) (tk : L2.Takes X Wout)
    (hb : ∀ (W : WX) (pn : List (Addr × Obj)) (xe : Value → Shared → Prop), L2.Takes (X.tr pn xe) W → PassesOwn (model X.prog X.w) X.A X.env xe → PSs (X.tr pn xe) body (tb W))
    (hh : HdsAs X (h₀ :: hds) l) : PS X (.Try body (h₀ :: hds) [] [] pos) (fun D σ H => tb (wAsMany X.K Wout D l) D σ H) := by
  refine ⟨fun pins s σ H D I h => ?_⟩
  have ok := I.ok
  have hfr : X.A.frames = some (X.env :: X.outer) := by rw [ok.frames, hs]
  refine wpAny_Try_except ?_
  refine wpAny_mono ((hb (wAsMany X.K Wout D l) (X.pn ++ pins) (fun e s₁ => wpAny (model X.prog X.w) X.A (noteFrame e X.env) (fun _ s₂ => wpAny (model X.prog X.w) X.A (setFlight e none) (fun _ s₃ =>
    wpAny (model X.prog X.w) X.A (handleBy e X.env (h₀ :: hds)) (SP X pins D) X.xe s₃) X.xe s₂) X.xe s₁) (fun u s' xx => ?_) PassesOwn.looking).run [] s σ H D (I.toTry _) h) (fun f s1 hsp => ?_) (fun e s1 he => he)
  · obtain ⟨a, B, sI, pins', σ', H', cls, d, rfl, J', nb, up, sky, na, os, ag, w⟩ := xx
    have J : Inv X pins σ' H' sI := J'.ofTry ok
    have sky' : Sky B (X.env :: X.outer) a (Zc cls d) X.env.locals s'.heap := by rw [← hs]; exact sky
    show wpAny (model X.prog X.w) X.A (noteFrame (.ref a) X.env) _ _ _
    refine Sky.land Zc.steady hfr hf sky' fun h3 fl3 up3 => ?_
    have J3 : Inv X pins σ' H' { s' with heap := h3 } := J.landed nb fl3.1 (up.trans up3) os ag
    obtain ⟨oe3, vs3, he3, hz3, hd3⟩ := fl3.there
    have notFr : ∀ {h : Heap} {o : Obj} {vs : Array Value}, h.FunFrames B (X.env :: X.outer) → h.get? a = some o → o.data = .fields vs → a ∉ frs (X.env :: X.outer) := fun {h o vs} ff e dd hm => by
      obtain ⟨_, o', e', hnf⟩ := ff.mem hm
      rw [e] at e'; cases e'
      exact hnf _ dd
    have nfr := notFr fl3.2.2.1 he3 hd3
    have nL : a ≠ X.env.locals := fun z => nfr (List.mem_filterMap.mpr ⟨X.env, List.mem_cons_self, by rw [hf, z]⟩)
    have nF : a ∉ X.fs := fun hm => by
      obtain ⟨e, he, q⟩ := List.mem_filterMap.mp hm
      exact nfr (List.mem_filterMap.mpr ⟨e, List.mem_cons_of_mem _ he, q⟩)
    have S3 := J3.suite he3 hd3 na nL nF
    have go : ∀ {hds' : List ExceptHandler} {l' : List Cl}, HdsAs X hds' l' → wAsMany X.K Wout D l' cls d σ' H' →
        wpAny (model X.prog X.w) X.A (handleBy (.ref a) X.env hds') (SP X pins D) X.xe { s' with heap := h3 } := by
      intro hds' l' hk
      induction hk with
      | nil =>
        intro w
        refine wpAny_handleBy_nil ?_
        obtain ⟨k1, k2, k3, oe, vs, T, oT, ts', he, hz, hd, h1, hr⟩ := id fl3
        unfold PySem.passOn
        refine wpAny_bind (wpAny_field he hd h1 ?_)
        rw [if_neg (show ¬ ((Value.ref T == Value.none) = true) from by simp)]
        have fin : wpAny (model X.prog X.w) X.A (setFlight (.ref a) X.env.frame) (fun _ s4 => wpAny (model X.prog X.w) X.A (throw (.ref a) : Sem Flow) (SP X pins D) X.xe s4) X.xe { s' with heap := h3 } := by
          rw [hf]
          refine HandSPX.setFlight_upZ fl3 fun h4 hh4 up4 => wpAny_throw (tk _ _ ?_)
          exact ⟨a, B, sI, pins, σ', H', cls, d, rfl, J, nb, (up.trans up3).trans up4, .inr (.inr (by rw [hs]; exact hh4)), na, os, ag, w⟩
        first
          | exact wpAny_bind (wpAny_pure (wpAny_bind fin))
          | exact wpAny_bind fin
      | @cons x n i c ts b₀ suite np pos' hds2 l2 hi hln hc hsu r ih =>
        intro w
        obtain ⟨b, hb1, hyes, hno⟩ := w
        have hloc : Loc X.env.scope n := .inl hln
        refine wpAny_handleBy_cons (codeAny_handlers_test ?_) (by intro q; cases q)
        have LT : PySem.W.Looks (model X.prog X.w) h3 (typeOf (.ref a)) cls := fun A Q E s k q => wpAny_typeOf_ref (k _ _ he3) (by rw [hz3.1]; exact q)
        have LM := PySem.W.exm_one (M := model X.prog X.w) (J3.kIn) LT hb1
        have test : ∀ {Q : Value → Shared → Prop} {E : Value → Shared → Prop}, Q c { s' with heap := h3 } → wpAny (model X.prog X.w) (X.A.mark (some (.ref a))) (eval (.Name x np) X.env) Q E { s' with heap := h3 } := fun {Q E} q => by
          obtain ⟨hg, hdbg, hm | ⟨hm, hv, hnn⟩⟩ := hc
          · exact ld_glob (X := X.suite a ((a, oe3) :: (X.pn ++ pins))) S3 hg hm q hdbg
          · exact ld_blt (X := X.suite a ((a, oe3) :: (X.pn ++ pins))) S3 hg hm hv q hnn hdbg
        refine test (LM.here ?_)
        cases b with
        | true =>
          refine codeAny_handlers_suite_as ?_
          refine HandSPX.lands_againZ fl3 fun h4 fl4 up4 => ?_
          have J4 : Inv X pins σ' H' { s' with heap := h4 } := J.landed nb fl4.1 ((up.trans up3).trans up4) os ag
          obtain ⟨oe4, vs4, he4, hz4, hd4⟩ := fl4.there
          have S4 := J4.suite he4 hd4 na nL nF
          refine store_ok (X := X.suite a ((a, oe4) :: (X.pn ++ pins))) (v := .ref a) S4 hN hi hloc rfl (fun s5 S5 => ?_) (.inr hln)
          refine wpAny_mono ((hsu a oe4 cls d (X.pn ++ pins) hz4 ⟨_, hd4⟩).run [] s5 _ H' _ S5 (hyes rfl a na)) (fun f s6 hsp => ?_) (fun _ _ z => False.elim z)
          have end_ : ∀ {σ6 : L2.St} {H6 : Hp} {Q : Shared → Prop}, Inv (X.suite a ((a, oe4) :: (X.pn ++ pins))) [] σ6 H6 s6 → (∀ s7, Inv X pins (σ6.set i none) H6 s7 → Q s7) →
              wpAny (model X.prog X.w) X.A (do bindName X.env n .none; unbindBehindTheSuite X.env n pos') (fun _ s7 => Q s7) X.xe s6 := fun {σ6 H6 Q} S6 hq => gone_ok (S6.unsuite ok) hN hi hln hq
          cases f with
          | next =>
            obtain ⟨σ6, H6, S6, q6⟩ := hsp
            exact end_ S6 fun s7 J7 => ⟨_, _, J7, q6⟩
          | brk =>
            obtain ⟨σ6, H6, S6, q6⟩ := hsp
            exact end_ S6 fun s7 J7 => ⟨_, _, J7, q6⟩
          | cont =>
            obtain ⟨σ6, H6, S6, q6⟩ := hsp
            exact end_ S6 fun s7 J7 => ⟨_, _, J7, q6⟩
          | ret u =>
            obtain ⟨v6, σ6, H6, S6, r6, q6⟩ := hsp
            exact end_ S6 fun s7 J7 => ⟨_, _, _, J7, r6, q6⟩
        | false => exact ih (hno rfl)
    exact go hh w
  · cases f with
    | next =>
      obtain ⟨σ', H', J', q⟩ := hsp
      exact wpAny_execs_nil ⟨σ', H', J'.ofTry ok, q⟩
    | brk =>
      obtain ⟨σ', H', J', q⟩ := hsp
      exact ⟨σ', H', J'.ofTry ok, q⟩
    | cont =>
      obtain ⟨σ', H', J', q⟩ := hsp
      exact ⟨σ', H', J'.ofTry ok, q⟩
    | ret u =>
      obtain ⟨v, σ', H', J', r, q⟩ := hsp
      exact ⟨v, σ', H', J'.ofTry ok, r, q⟩
end
section
variable {X : Cx} {W : L2.St → XK}
def wTryAs2 (cl : List CN) (c1 : CN) (i1 : Nat) (c2 : CN) (i2 : Nat) (w : WS) (h1 h2 : WH) : WS := fun DA a => w { DA with ex := fun x a1 => x.C ∈ cl ∧ br (exSub x.C c1) (∀ ea d, h1 ea d x (rtEnds DA i1) (a1.set i1 (some ⟨.no, .exc ea d x.C x.fs⟩))) (br (exSub x.C c2) (∀ ea d, h2 ea d x (rtEnds DA i2) (a1.set i2 (some ⟨.no, .exc ea d x.C x.fs⟩))) (DA.ex x a1)) } a
theorem suite_ps {hw : WH} {b₀ : Stmt} {suite : List Stmt} (hsu : ∀ (a : Addr) (oe : Obj) (C : Addr) (d : Option Addr) (pn : List (Addr × Obj)) (x : Exc), NmC X.K x.C C → Zc (.ref C) d oe → (∃ vs, oe.data = .fields vs) → ∃ t, SSs (X.suite a ((a, oe) :: pn)) W0 (b₀ :: suite) t (hw a d x)) :
    ∀ (a : Addr) (oe : Obj) (cls : Value) (d : Option Addr) (pn : List (Addr × Obj)), Zc cls d oe → (∃ vs, oe.data = .fields vs) → PSs (X.suite a ((a, oe) :: pn)) (b₀ :: suite) (tSuite X.K hw a cls d) := by
  intro a oe cls d pn hz hfl
  refine ⟨fun pins s σ H D I h => ?_⟩
  obtain ⟨E, F, ab, DA, x, R, ⟨C, hn, rfl⟩, hw1, l⟩ := h
  obtain ⟨t, hh⟩ := hsu a oe C d pn x hn hz hfl
  exact hh.1.run pins s σ H D I (hh.2 E F H σ ab D DA R hw1 l)
theorem suite_ends {E : En} {F F' H' : Hp} {D : Ends} {DA : EndsA} {σ' : L2.St} {a' : PSt} {x : Exc} {dx : Option Addr} {C : Addr} {i : Nat} {hw : WH} {ea : Addr} (l : Lk X.K E F D DA W) (s : Same F F') (R' : Rel X.K E F' H' σ' a') (hn : NmC X.K x.C C)
    (hfs : match dx with | none => x.fs = [] | some d => ∃ fs, F' d = some (.xd fs) ∧ RepA X.K F' fs x.fs) (q1 : hw ea dx x (rtEnds DA i) (a'.set i (some ⟨.no, .exc ea dx x.C x.fs⟩))) : tSuite X.K hw ea (.ref C) dx (goneEnds D i) (σ'.set i (some (.ref ea))) H' := by
  have rp : Rep X.K F' (.ref ea) (.exc ea dx x.C x.fs) := by
    cases dx with
    | none => have e : x.fs = [] := hfs; rw [e]; exact .exc0
    | some d => obtain ⟨fs, h1, h2⟩ := hfs; exact .exc h1 h2
  refine ⟨E, F', _, _, x, R'.setDat rp, ⟨C, hn, rfl⟩, q1, fun σ2 F2 H2 a2 e2 R2 q2 => ?_, fun σ2 F2 H2 a2 e2 R2 q2 => ?_, fun σ2 F2 H2 a2 e2 R2 q2 => ?_, fun σ2 F2 H2 a2 v r e2 R2 rr q2 => ?_, fun σ2 x2 a2 c2 d2 F2 H2 e2 R2 xr2 z => z.elim⟩
  · exact l.nx _ F2 H2 _ (s.trans e2) (R2.forget i none) q2
  · exact l.bk _ F2 H2 _ (s.trans e2) (R2.forget i none) q2
  · exact l.ct _ F2 H2 _ (s.trans e2) (R2.forget i none) q2
  · exact l.rt σ2 F2 H2 a2 v r (s.trans e2) R2 rr q2
theorem ss_tryAs2 {n1 n2 : Str} {i1 i2 : Nat} {body suite1 suite2 : List Stmt} {b1 b2 : Stmt} {np1 np2 pos pos1 pos2 : Pos} {w : WS} {h1 h2 : WH} {cl : List CN} {c1 c2 : CN} {C1 C2 : Addr} (hs : X.stack = X.env :: X.outer) (hf : X.env.frame = some X.env.locals) (hN : X.N.Nodup)
    (hi1 : X.N[i1]? = some n1) (hl1 : X.env.kindOf n1 = some .local) (hc1 : Names X c1.s (.ref C1)) (he1 : ExmOk X.K cl c1 C1)
    (hi2 : X.N[i2]? = some n2) (hl2 : X.env.kindOf n2 = some .local) (hc2 : Names X c2.s (.ref C2)) (he2 : ExmOk X.K cl c2 C2) (tk : L2.Takes X (WXof W))
    (hb : ∀ (W' : WX) (pn : List (Addr × Obj)) (xe : Value → Shared → Prop), L2.Takes (X.tr pn xe) W' → PassesOwn (model X.prog X.w) X.A X.env xe → ∃ t, SSs (X.tr pn xe) (fun σ c d H => W' c d σ H) body t w)
    (hs1 : ∀ (a : Addr) (oe : Obj) (C : Addr) (d : Option Addr) (pn : List (Addr × Obj)) (x : Exc), NmC X.K x.C C → Zc (.ref C) d oe → (∃ vs, oe.data = .fields vs) → ∃ t, SSs (X.suite a ((a, oe) :: pn)) W0 (b1 :: suite1) t (h1 a d x))
    (hs2 : ∀ (a : Addr) (oe : Obj) (C : Addr) (d : Option Addr) (pn : List (Addr × Obj)) (x : Exc), NmC X.K x.C C → Zc (.ref C) d oe → (∃ vs, oe.data = .fields vs) → ∃ t, SSs (X.suite a ((a, oe) :: pn)) W0 (b2 :: suite2) t (h2 a d x)) :
    SS X W (.Try body [.ExceptHandler (some (.Name c1.s np1)) (some n1) (b1 :: suite1) pos1, .ExceptHandler (some (.Name c2.s np2)) (some n2) (b2 :: suite2) pos2] [] [] pos)
      (fun D σ H => tS X.K (fun σ c d H => wAsMany X.K (WXof W) D [(.ref C1, i1, tSuite X.K h1), (.ref C2, i2, tSuite X.K h2)] c d σ H) w D σ H) (wTryAs2 cl c1 i1 c2 i2 w h1 h2) := by
  refine ⟨ps_tryAsMany (tb := fun W' => tS X.K (fun σ c d H => W' c d σ H) w) (Wout := WXof W) hs hf hN tk (fun W' pn xe tk' po => ?_) (.cons hi1 hl1 hc1 (suite_ps hs1) (.cons hi2 hl2 hc2 (suite_ps hs2) .nil)), fun E F H σ a D DA R h l => ?_⟩
  · obtain ⟨t, h⟩ := hb W' pn xe tk' po
    exact h.own
  · refine ⟨E, F, a, _, R, h, l.nx, l.bk, l.ct, l.rt, fun σ' x a' cls dx F' H' s R' xr q => ?_⟩
    obtain ⟨hm, q⟩ := q
    obtain ⟨⟨C, hn, rfl⟩, hfs⟩ := id xr
    refine ⟨exSub x.C c1, he1 x.C hm C hn, fun hb ea hea => suite_ends l s R' hn hfs (br_tt q hb ea dx), fun hb => ?_⟩
    have q := br_ff q hb
    exact ⟨exSub x.C c2, he2 x.C hm C hn, fun hb ea hea => suite_ends l s R' hn hfs (br_tt q hb ea dx), fun hb => l.ex σ' x a' (.ref C) dx F' H' s R' xr (br_ff q hb)⟩
end
/-! isinstance(e, ValueError) of a caught exception -/
section
variable {X : Cx} {W : L2.St → XK} {e : Expr} {ta : TE} {w : WE} {pos : Pos}
def KitV (K : PySem.W.Frag) (cl : List CN) : Prop := ∀ x ∈ cl, ∀ C, NmC K x C → ExcC K C ∧ PySem.W.kitOne K (.ref C) (.type "ValueError") = some true
def wIsV (ea : Addr) (d : Option Addr) (x : Exc) (cl : List CN) (w : WE) : WE := fun a q qe => w a (fun r a1 => onO (con a1 r) fun v => v = .exc ea d x.C x.fs ∧ x.C ∈ cl ∧ q (.dat (.bl true)) a1) qe
theorem se_isV {a Cx1 : Addr} {d : Option Addr} {oe : Obj} {pn : List (Addr × Obj)} {x : Exc} {cl : List CN} {p p2 : Pos} (hn : NmC X.K x.C Cx1) (hz : Zc (.ref Cx1) d oe) (hf : ∃ vs, oe.data = .fields vs) (hk : KitV X.K cl)
    (h : SE (X.suite a ((a, oe) :: pn)) W e ta w) (hg : Gl X "isinstance") (hm : X.mg "isinstance" = none) (hv : bootBuiltins "isinstance" = some (.builtin "isinstance")) (hgv : Gl X "ValueError") (hmv : X.mg "ValueError" = none) (hvv : bootBuiltins "ValueError" = some (.type "ValueError"))
    (he : starEach [e, .Name "ValueError" p2] X.env = (false, eval e X.env) :: starEach [.Name "ValueError" p2] X.env := by rfl) (he2 : starEach [.Name "ValueError" p2] X.env = (false, eval (.Name "ValueError" p2) X.env) :: starEach [] X.env := by rfl) (hpl : (backTo pos (starEach [.Name "ValueError" p2] X.env)).any (·.1) = false := by rfl) :
    SE (X.suite a ((a, oe) :: pn)) W (.Call (.Name "isinstance" p) [e, .Name "ValueError" p2] [] pos) (tCB (rIsX X.K cl x.C d Cx1 a) (tCons ta (tCons (tC (.ty "ValueError")) tNil))) (wIsV a d x cl w) := by
  refine ⟨pe_callB (X := X.suite a ((a, oe) :: pn)) (call_isE2 (fun hm => (hk x.C hm Cx1 hn).1) hz hf) hg hm hv (pa_cons h.1 (pa_cons (pe_bltn (X := X.suite a ((a, oe) :: pn)) hgv hmv hvv rfl (by decide) (by decide)) pa_nil he2) he) (by decide) (by decide) he hpl, fun E F H σ ab Q q qe R hw l lx => ?_⟩
  refine h.2 E F H σ ab _ _ qe R hw (fun v r F' H' a' e' R' rp hq => ?_) lx
  obtain ⟨v1, hv1, rfl, hmem, hq⟩ := onO_iff.mp hq
  obtain ⟨rfl, hd⟩ := rep_exc (rd_exc (rd_of R' rp hv1))
  refine ⟨hmem, ?_, .ty "ValueError", .type "ValueError", true, rfl, fun u hu => hu, (hk x.C hmem Cx1 hn).2, l _ (.dat (.bl _)) F' H' a' e' R' (.bl _) hq⟩
  cases d with
  | none => trivial
  | some dd =>
    obtain ⟨vs, h1, _⟩ := hd
    exact ⟨vs, R'.ext _ _ h1⟩
end
section
variable {K : PySem.W.Frag}
def SubV (K : PySem.W.Frag) (x : CN) : Prop := ∃ C, NmC K x C ∧ PySem.W.subIn K (.ref C) (.type "ValueError") = some true
theorem SubV.mk' {x : CN} {C : Addr} (h1 : NmC K x C) (h2 : PySem.W.subIn K (.ref C) (.type "ValueError") = some true) : SubV K x := ⟨C, h1, h2⟩
theorem kitV_of {cl : List CN} (k : ExK K) (hp : ∀ x ∈ cl, ∃ C, ExP K x C) (h : ∀ x ∈ cl, SubV K x) : KitV K cl := fun x hx C hn => by
  obtain ⟨C', px⟩ := hp x hx
  obtain rfl := px.nm.eq hn
  obtain ⟨D, h1, h2⟩ := h x hx
  obtain rfl := h1.eq hn
  refine ⟨px.exc k, ?_⟩
  unfold PySem.W.kitOne
  have e : (Value.ref D == Value.type "ValueError") = false := rfl
  rw [e, if_neg Bool.false_ne_true]
  show (if PySem.W.kitMeta "ValueError" = true then PySem.W.subIn K (.ref D) (.type "ValueError") else none) = some true
  rw [if_pos (by decide +kernel)]
  exact h2
end
end DS

namespace My
open PySem PySem.Spec PyProof.Rows L2 DS
/-! ### the law's own helpers: what each promises -/
def isBox (c : D) : Prop := ∃ (ds : List Int) (n : Nat), c = .lst [.lst (Ds ds), .int (n : Int)]
def sp_Lcell : DS.Spec := fun as Q _ => ∃ (o : Ow) (ns : List Int) (k : Int), as = [⟨o, .rol (Ds ns)⟩, ⟨.no, .int k⟩] ∧ 0 ≤ k ∧ Q ⟨.no, .int (ns.getD k.toNat 0)⟩ as
def sp_Ldigits : DS.Spec := fun as Q _ => ∃ (ns : List Int) (i j : Int), as = [⟨.no, .rol (Ds ns)⟩, ⟨.no, .int i⟩, ⟨.no, .int j⟩] ∧ 0 ≤ i ∧ i ≤ 1000 ∧ 0 ≤ j ∧ j ≤ 1000 ∧ ∀ ds : List Int, ds.length ≤ 60000 → Q ⟨.own, .lst (Ds ds)⟩ as
def sp_Ldraw : DS.Spec := fun as Q _ => ∃ (c : D) (m : Int), as = [⟨.lent, c⟩, ⟨.no, .int m⟩] ∧ isBox c ∧ 0 < m ∧ ∀ r c', 0 ≤ r → r < m → isBox c' → Q ⟨.no, .int r⟩ [⟨.lent, c'⟩, ⟨.no, .int m⟩]
def sp_Lany : DS.Spec := fun as Q _ => ∃ (c : D), as = [⟨.lent, c⟩] ∧ isBox c ∧ ∀ (x : Nat) c', ((x = 10 ∨ (32 ≤ x ∧ x < 127)) ∧ x ≠ 37) → isBox c' → Q ⟨.no, .str ⟨#[x]⟩⟩ [⟨.lent, c'⟩]
def sp_Lsame : Nat → DS.Spec
  | 0 => fun _ _ _ => False
  | n + 1 => fun as Q _ => ∃ (o o' : Ow) (d : D), as = [⟨o, d⟩, ⟨o', d⟩] ∧ Pl n d ∧ Q ⟨.no, .bl true⟩ as
theorem har_Lcell : ∀ as Q Qe, sp_Lcell as Q Qe → as.length = 2 := by rintro _ _ _ ⟨_, _, _, rfl, _⟩; rfl
theorem har_Ldigits : ∀ as Q Qe, sp_Ldigits as Q Qe → as.length = 3 := by rintro _ _ _ ⟨_, _, _, rfl, _⟩; rfl
theorem har_Ldraw : ∀ as Q Qe, sp_Ldraw as Q Qe → as.length = 2 := by rintro _ _ _ ⟨_, _, rfl, _⟩; rfl
theorem har_Lany : ∀ as Q Qe, sp_Lany as Q Qe → as.length = 1 := by rintro _ _ _ ⟨_, rfl, _⟩; rfl
theorem har_Lsame : ∀ n as Q Qe, sp_Lsame n as Q Qe → as.length = 2
  | 0, _, _, _, h => h.elim
  | n + 1, _, _, _, ⟨_, _, _, e, _⟩ => by subst e; rfl
def mj (f s c : Int) : List Int → List Int
  | [] => []
  | [x] => [x]
  | x :: y :: r => if x = f ∧ y = s then c :: mj f s c r else x :: mj f s c (y :: r)
abbrev ms (w : List Nat) : Str := ⟨w.toArray⟩
def solid (x : Nat) : Prop := 33 ≤ x ∧ x < 127 ∧ x ≠ 37
abbrev Jn := List (Int × Int)
def jD (p : Int × Int) : D := .tup [.int p.1, .int p.2]
def joinsD (J : Jn) : List D := J.map jD
abbrev wsD (ws : List (List Nat)) : List D := ws.map fun w => .str (ms w)
/-! ### codes read back -/
def CH : List Nat := [10, 32, 33, 34, 35, 36, 38, 39, 40, 41, 42, 43, 44, 45, 46, 47, 48, 49, 50, 51, 52, 53, 54, 55, 56, 57, 58, 59, 60, 61, 62, 63, 64, 65, 66, 67, 68, 69, 70, 71, 72, 73, 74, 75, 76, 77, 78, 79, 80, 81, 82, 83, 84, 85, 86, 87, 88, 89, 90, 91, 92, 93, 94, 95, 96, 97, 98, 99, 100, 101, 102, 103, 104, 105, 106, 107, 108, 109, 110, 111, 112, 113, 114, 115, 116, 117, 118, 119, 120, 121, 122, 123, 124, 125, 126]
/-- what a code stands for, with the first k joins -/
def exC (J : Jn) : Nat → Int → List Nat
  | 0, c => [(c - 2).toNat]
  | k + 1, c => if c = 200 + (k : Int) then exC J k (J.getD k (0, 0)).1 ++ exC J k (J.getD k (0, 0)).2 else exC J k c
def Kn (k : Nat) (c : Int) : Prop := (∃ x ∈ CH, c = 2 + (x : Int)) ∨ ∃ j, j < k ∧ c = 200 + (j : Int)
def JOk (J : Jn) : Prop := ∀ (k : Nat) (p : Int × Int), J[k]? = some p → Kn k p.1 ∧ Kn k p.2
def txt (J : Jn) (cs : List Int) : List Nat := cs.flatMap (exC J J.length)
def COk (J : Jn) (cs : List Int) : Prop := ∀ c ∈ cs, Kn J.length c
def chD (x : Nat) : D := .str (ms [x])
def tabC (f : Nat → D) : List (L2.Key × D) := CH.map fun (x : Nat) => (Sum.inl (2 + (x : Int)), f x)
def LenT (J : Jn) (k : Nat) (kvs : List (L2.Key × D)) : Prop := (∀ c, Kn k c → valD kvs (Sum.inl c) = some (.int ((exC J k c).length : Nat))) ∧ kvs.length ≤ 200 + k
def kn (k : Nat) (c : Int) : Bool := decide (2 ≤ c ∧ (c - 2).toNat ∈ CH) || decide (200 ≤ c ∧ c < 200 + (k : Int))
theorem kn_iff {k : Nat} {c : Int} : kn k c = true ↔ Kn k c := by
  unfold kn Kn
  rw [Bool.or_eq_true, decide_eq_true_iff, decide_eq_true_iff]
  constructor
  · rintro (⟨h1, h2⟩ | ⟨h1, h2⟩)
    · exact .inl ⟨_, h2, by omega⟩
    · exact .inr ⟨(c - 200).toNat, by omega, by omega⟩
  · rintro (⟨x, hx, rfl⟩ | ⟨j, hj, rfl⟩)
    · refine .inl ⟨by omega, ?_⟩
      rw [show ((2 + (x : Int)) - 2).toNat = x by omega]
      exact hx
    · exact .inr ⟨by omega, by omega⟩
/-- the first unknown code of the codes -/
def Unk (J : Jn) (cs : List Int) (c : Int) : Prop := ∃ pre post, cs = pre ++ c :: post ∧ COk J pre ∧ ¬ Kn J.length c ∧ c.natAbs.log2 < 1920
def eUnk (c : Int) : Exc := ⟨.UnknownCode, [("code", .int c)]⟩
def eLarge : Exc := ⟨.TooLarge, []⟩
def cost (J : Jn) (c : Int) : Int := (exC J J.length c).length
def szs (J : Jn) : List Int := (List.range J.length).map fun (k : Nat) => cost J (200 + (k : Int))
def sp_u_char_table : DS.Spec := fun as Q _ => as = [] ∧ Q ⟨.own, .dK (tabC chD)⟩ []
def sp_u_lengths : DS.Spec := fun as Q _ => ∃ (J : Jn), as = [⟨.no, .lst (joinsD J)⟩] ∧ JOk J ∧ J.length ≤ 100 ∧ ∀ kvs, LenT J J.length kvs → (∀ c, ¬ Kn J.length c → valD kvs (Sum.inl c) = none) → Q ⟨.own, .dK kvs⟩ as
def sp_text_length : DS.Spec := fun as Q Qe => ∃ (J : Jn) (cs : List Int), as = [⟨.no, .lst (joinsD J)⟩, ⟨.no, .lst (Ds cs)⟩] ∧ JOk J ∧ J.length ≤ 100 ∧
  ((∃ c, Unk J cs c ∧ Qe (eUnk c) as) ∨ (COk J cs ∧ Q ⟨.no, .int ((txt J cs).length : Nat)⟩ as))
def sp_u_text_of : DS.Spec := fun as Q _ => ∃ (J : Jn) (cs : List Int), as = [⟨.no, .lst (joinsD J)⟩, ⟨.no, .lst (Ds cs)⟩] ∧ JOk J ∧ J.length ≤ 100 ∧ COk J cs ∧ (txt J cs).length ≤ 100000 ∧ Q ⟨.no, .str (ms (txt J cs))⟩ as
def sp_u_bounded_text : DS.Spec := fun as Q Qe => ∃ (J : Jn) (cs : List Int), as = [⟨.no, .lst (joinsD J)⟩, ⟨.no, .lst (Ds cs)⟩] ∧ JOk J ∧ J.length ≤ 100 ∧
  ((∃ c, Unk J cs c ∧ Qe (eUnk c) as) ∨ (COk J cs ∧ 100000 < (txt J cs).length ∧ Qe eLarge as) ∨ (COk J cs ∧ (txt J cs).length ≤ 100000 ∧ Q ⟨.no, .str (ms (txt J cs))⟩ as))
def sp_code_text : DS.Spec := fun as Q Qe => ∃ (J : Jn) (c0 : Int), as = [⟨.no, .lst (joinsD J)⟩, ⟨.no, .int c0⟩] ∧ JOk J ∧ J.length ≤ 100 ∧
  ((∃ c, Unk J [c0] c ∧ Qe (eUnk c) as) ∨ (COk J [c0] ∧ 100000 < (txt J [c0]).length ∧ Qe eLarge as) ∨ (COk J [c0] ∧ (txt J [c0]).length ≤ 100000 ∧ Q ⟨.no, .str (ms (txt J [c0]))⟩ as))
def sp_read_codes : DS.Spec := fun as Q Qe => ∃ (J : Jn) (cs : List Int), as = [⟨.no, .lst (joinsD J)⟩, ⟨.no, .lst (Ds cs)⟩] ∧ JOk J ∧ J.length ≤ 100 ∧
  ((∃ c, Unk J cs c ∧ Qe (eUnk c) as) ∨ (COk J cs ∧ 100000 < (txt J cs).length ∧ Qe eLarge as) ∨ (∃ ws r, COk J cs ∧ (txt J cs).length ≤ 100000 ∧ txt J cs = (ws.flatMap fun w => w ++ [32]) ++ r ∧ (∀ w ∈ ws, 32 ∉ w) ∧ 32 ∉ r ∧ Q ⟨.no, .tup [.lst (wsD ws), .str (ms r)]⟩ as))
def sp_Ldoubling : DS.Spec := fun as Q _ => ∃ (c : D), as = [⟨.lent, c⟩] ∧ isBox c ∧ ∀ (J : Jn) c', 1 ≤ J.length → J.length ≤ 31 → JOk J → isBox c' → Q ⟨.own, .lst (joinsD J)⟩ [⟨.lent, c'⟩]
def sp_Lsizes : DS.Spec := fun as Q _ => ∃ (J : Jn), as = [⟨.no, .lst (joinsD J)⟩] ∧ JOk J ∧ J.length ≤ 100 ∧ Q ⟨.own, .lst (Ds (szs J))⟩ as
def sp_Lsize : DS.Spec := fun as Q _ => ∃ (J : Jn) (cs : List Int), as = [⟨.no, .lst (Ds (szs J))⟩, ⟨.no, .lst (Ds cs)⟩] ∧ COk J cs ∧ Q ⟨.no, .int ((txt J cs).length : Nat)⟩ as
def sp_Ldrawn_codes : DS.Spec := fun as Q _ => ∃ (c : D) (J : Jn), as = [⟨.lent, c⟩, ⟨.no, .lst (joinsD J)⟩] ∧ isBox c ∧ 1 ≤ J.length ∧ J.length ≤ 100 ∧ ∀ (cs : List Int) c', cs.length ≤ 30 → COk J cs → isBox c' → Q ⟨.own, .lst (Ds cs)⟩ [⟨.lent, c'⟩, ⟨.no, .lst (joinsD J)⟩]
def asks (s : Str) : Prop := s = "length" ∨ s = "text" ∨ s = "read"
/-- what is told -/
def tells (J : Jn) (s : Str) (cs : List Int) (d : D) : Prop :=
  (∃ c, Unk J cs c ∧ d = .tup [.str "unknown", .int c]) ∨ (COk J cs ∧ s ≠ "length" ∧ 100000 < (txt J cs).length ∧ d = .tup [.str "large"]) ∨
  (COk J cs ∧ (s = "length" ∨ (txt J cs).length ≤ 100000) ∧ d = .tup [.str s, .int ((txt J cs).length : Nat)])
def sp_Ltold : DS.Spec := fun as Q _ => ∃ (s : Str) (J : Jn) (cs : List Int) (d : D), as = [⟨.no, .str s⟩, ⟨.no, .lst (joinsD J)⟩, ⟨.no, .lst (Ds cs)⟩] ∧ JOk J ∧ J.length ≤ 100 ∧ asks s ∧ (s = "text" → cs.length = 1) ∧ tells J s cs d ∧ Q ⟨.no, d⟩ as
def sp_Ldue : DS.Spec := fun as Q _ => ∃ (s : Str) (J : Jn) (cs us : List Int) (d : D), as = [⟨.no, .str s⟩, ⟨.no, .lst (Ds (szs J))⟩, ⟨.no, .lst (Ds cs)⟩, ⟨.no, .lst (Ds us)⟩] ∧ tells J s cs d ∧ us = cs.filter (fun c => !kn J.length c) ∧ Q ⟨.no, d⟩ as
def sp_law : DS.Spec := lawSpec 63
theorem har_u_char_table : ∀ as Q Qe, sp_u_char_table as Q Qe → as.length = 0 := by rintro _ _ _ ⟨rfl, _⟩; rfl
theorem har_u_lengths : ∀ as Q Qe, sp_u_lengths as Q Qe → as.length = 1 := by rintro _ _ _ ⟨_, rfl, _⟩; rfl
theorem har_text_length : ∀ as Q Qe, sp_text_length as Q Qe → as.length = 2 := by rintro _ _ _ ⟨_, _, rfl, _⟩; rfl
theorem har_u_text_of : ∀ as Q Qe, sp_u_text_of as Q Qe → as.length = 2 := by rintro _ _ _ ⟨_, _, rfl, _⟩; rfl
theorem har_u_bounded_text : ∀ as Q Qe, sp_u_bounded_text as Q Qe → as.length = 2 := by rintro _ _ _ ⟨_, _, rfl, _⟩; rfl
theorem har_code_text : ∀ as Q Qe, sp_code_text as Q Qe → as.length = 2 := by rintro _ _ _ ⟨_, _, rfl, _⟩; rfl
theorem har_read_codes : ∀ as Q Qe, sp_read_codes as Q Qe → as.length = 2 := by rintro _ _ _ ⟨_, _, rfl, _⟩; rfl
theorem har_Ldoubling : ∀ as Q Qe, sp_Ldoubling as Q Qe → as.length = 1 := by rintro _ _ _ ⟨_, rfl, _⟩; rfl
theorem har_Lsizes : ∀ as Q Qe, sp_Lsizes as Q Qe → as.length = 1 := by rintro _ _ _ ⟨_, rfl, _⟩; rfl
theorem har_Lsize : ∀ as Q Qe, sp_Lsize as Q Qe → as.length = 2 := by rintro _ _ _ ⟨_, _, rfl, _⟩; rfl
theorem har_Ldrawn_codes : ∀ as Q Qe, sp_Ldrawn_codes as Q Qe → as.length = 2 := by rintro _ _ _ ⟨_, _, rfl, _⟩; rfl
theorem har_Ltold : ∀ as Q Qe, sp_Ltold as Q Qe → as.length = 3 := by rintro _ _ _ ⟨_, _, _, _, rfl, _⟩; rfl
theorem har_Ldue : ∀ as Q Qe, sp_Ldue as Q Qe → as.length = 4 := by rintro _ _ _ ⟨_, _, _, _, _, rfl, _⟩; rfl
theorem har_law : ∀ as Q Qe, sp_law as Q Qe → as.length = 1 := by rintro _ _ _ ⟨_, rfl, _⟩; rfl
def topS (i : Nat) : Stmt := PySem.Challenge.pw_corpuskeep_k41_codes_that_are_refused.main.body.getD i (.Pass ⟨0, 0, 0, 0⟩)
abbrev s_Ldraw : Stmt := topS 19
abbrev N_Ldraw : List Str := ["_law_box", "_law_many", "_law_at"]
theorem sc_Ldraw : FnScope N_Ldraw ["_law_box", "_law_many"] (defScope s_Ldraw) := ⟨rfl, rfl, rfl, by decide +kernel, rfl, by decide +kernel, by decide +kernel⟩
abbrev s_Lany : Stmt := topS 21
abbrev N_Lany : List Str := ["_law_box", "_law_chars"]
theorem sc_Lany : FnScope N_Lany ["_law_box"] (defScope s_Lany) := ⟨rfl, rfl, rfl, by decide +kernel, rfl, by decide +kernel, by decide +kernel⟩
abbrev s_Ldoubling : Stmt := topS 25
abbrev N_Ldoubling : List Str := ["_law_box", "_law_char", "_law_joins", "_law_k", "_law_before"]
theorem sc_Ldoubling : FnScope N_Ldoubling ["_law_box"] (defScope s_Ldoubling) := ⟨rfl, rfl, rfl, by decide +kernel, rfl, by decide +kernel, by decide +kernel⟩
abbrev s_Lsizes : Stmt := topS 26
abbrev N_Lsizes : List Str := ["_law_joins", "_law_sizes_here", "_law_first", "_law_second", "_law_size_here", "_law_code"]
theorem sc_Lsizes : FnScope N_Lsizes ["_law_joins"] (defScope s_Lsizes) := ⟨rfl, rfl, rfl, by decide +kernel, rfl, by decide +kernel, by decide +kernel⟩
abbrev s_Ldrawn_codes : Stmt := topS 28
abbrev N_Ldrawn_codes : List Str := ["_law_box", "_law_joins", "_law_codes", "_law_k", "_law_kind"]
theorem sc_Ldrawn_codes : FnScope N_Ldrawn_codes ["_law_box", "_law_joins"] (defScope s_Ldrawn_codes) := ⟨rfl, rfl, rfl, by decide +kernel, rfl, by decide +kernel, by decide +kernel⟩
abbrev s_Lcell : Stmt := topS 17
abbrev N_Lcell : List Str := ["_law_script", "_law_k"]
theorem sc_Lcell : FnScope N_Lcell ["_law_script", "_law_k"] (defScope s_Lcell) := ⟨rfl, rfl, rfl, by decide +kernel, rfl, by decide +kernel, by decide +kernel⟩
abbrev s_Ldigits : Stmt := topS 18
abbrev N_Ldigits : List Str := ["_law_script", "_law_first", "_law_last", "_law_digits_here", "_law_k", "_law_cell_here", "_law_turn", "_law_seed"]
theorem sc_Ldigits : FnScope N_Ldigits ["_law_script", "_law_first", "_law_last"] (defScope s_Ldigits) := ⟨rfl, rfl, rfl, by decide +kernel, rfl, by decide +kernel, by decide +kernel⟩
abbrev s_Lsame : Stmt := topS 20
abbrev N_Lsame : List Str := ["_law_actual", "_law_due_here", "_law_k"]
theorem sc_Lsame : FnScope N_Lsame ["_law_actual", "_law_due_here"] (defScope s_Lsame) := ⟨rfl, rfl, rfl, by decide +kernel, rfl, by decide +kernel, by decide +kernel⟩
abbrev s_u_char_table : Stmt := topS 9
abbrev N_u_char_table : List Str := ["char"]
theorem sc_u_char_table : FnScope N_u_char_table [] (defScope s_u_char_table) := ⟨rfl, rfl, rfl, by decide +kernel, rfl, by decide +kernel, by decide +kernel⟩
abbrev s_u_text_of : Stmt := topS 12
abbrev N_u_text_of : List Str := ["joins", "codes", "table", "waiting", "chars", "code", "first", "second"]
theorem sc_u_text_of : FnScope N_u_text_of ["joins", "codes"] (defScope s_u_text_of) := ⟨rfl, rfl, rfl, by decide +kernel, rfl, by decide +kernel, by decide +kernel⟩
abbrev s_u_lengths : Stmt := topS 10
abbrev N_u_lengths : List Str := ["joins", "lengths", "index", "first", "second", "char"]
theorem sc_u_lengths : FnScope N_u_lengths ["joins"] (defScope s_u_lengths) := ⟨rfl, rfl, rfl, by decide +kernel, rfl, by decide +kernel, by decide +kernel⟩
abbrev s_text_length : Stmt := topS 11
abbrev N_text_length : List Str := ["joins", "codes", "lengths", "total", "code"]
theorem sc_text_length : FnScope N_text_length ["joins", "codes"] (defScope s_text_length) := ⟨rfl, rfl, rfl, by decide +kernel, rfl, by decide +kernel, by decide +kernel⟩
abbrev s_u_bounded_text : Stmt := topS 13
abbrev N_u_bounded_text : List Str := ["joins", "codes"]
theorem sc_u_bounded_text : FnScope N_u_bounded_text ["joins", "codes"] (defScope s_u_bounded_text) := ⟨rfl, rfl, rfl, by decide +kernel, rfl, by decide +kernel, by decide +kernel⟩
abbrev s_read_codes : Stmt := topS 15
abbrev N_read_codes : List Str := ["joins", "codes", "parts"]
theorem sc_read_codes : FnScope N_read_codes ["joins", "codes"] (defScope s_read_codes) := ⟨rfl, rfl, rfl, by decide +kernel, rfl, by decide +kernel, by decide +kernel⟩
abbrev s_code_text : Stmt := topS 14
abbrev N_code_text : List Str := ["joins", "code"]
theorem sc_code_text : FnScope N_code_text ["joins", "code"] (defScope s_code_text) := ⟨rfl, rfl, rfl, by decide +kernel, rfl, by decide +kernel, by decide +kernel⟩
abbrev s_Ltold : Stmt := topS 29
abbrev N_Ltold : List Str := ["_law_asked", "_law_joins", "_law_codes", "_law_words", "_law_rest", "problem", "refusal", "_law_word_here"]
theorem sc_Ltold : FnScope N_Ltold ["_law_asked", "_law_joins", "_law_codes"] (defScope s_Ltold) := ⟨rfl, rfl, rfl, by decide +kernel, rfl, by decide +kernel, by decide +kernel⟩
abbrev s_Lsize : Stmt := topS 27
abbrev N_Lsize : List Str := ["_law_sizes_here", "_law_codes", "_law_total", "_law_code"]
theorem sc_Lsize : FnScope N_Lsize ["_law_sizes_here", "_law_codes"] (defScope s_Lsize) := ⟨rfl, rfl, rfl, by decide +kernel, rfl, by decide +kernel, by decide +kernel⟩
abbrev s_Ldue : Stmt := topS 30
abbrev N_Ldue : List Str := ["_law_asked", "_law_sizes_here", "_law_codes", "_law_unknown", "_law_total"]
theorem sc_Ldue : FnScope N_Ldue ["_law_asked", "_law_sizes_here", "_law_codes", "_law_unknown"] (defScope s_Ldue) := ⟨rfl, rfl, rfl, by decide +kernel, rfl, by decide +kernel, by decide +kernel⟩
abbrev s_law : Stmt := topS 31
abbrev N_law : List Str := ["_law_script", "_law_box", "_law_joins", "_law_sizes_here", "_law_codes", "_law_strange", "_law_k", "_law_unknown", "_law_passed", "_law_asked", "_law_code", "_law_alone"]
theorem sc_law : FnScope N_law ["_law_script"] (defScope s_law) := ⟨rfl, rfl, rfl, by decide +kernel, rfl, by decide +kernel, by decide +kernel⟩
abbrev s_UnknownCode_i : Stmt := (clsBody (topS 4)).getD 0 (.Pass ⟨0, 0, 0, 0⟩)
abbrev cl : List CN := [.UnknownCode, .TooLarge]
def w_Ldraw_s_3 : WS := (wRet (wC (.int 0)))
def w_Ldraw_s_2 : WS := (wSeq (wIf (wTst (wBin dLt (wVar 2) (wCB dLen (waCons (wBin dIx (wVar 0) (wC (.int 0))) waNil)))) (wRet (wBin dMod (wCB dInt (waCons (wBin dIx (wBin dIx (wVar 0) (wC (.int 0))) (wVar 2)) waNil)) (wVar 1))) wNext) w_Ldraw_s_3)
def w_Ldraw_s_1 : WS := (wSeq (wSetIx 0 (wC (.int 1)) (wBin dAdd (wVar 2) (wC (.int 1)))) w_Ldraw_s_2)
def w_Ldraw : WS := (wSeq (wSet 2 (wBin dIx (wVar 0) (wC (.int 1)))) w_Ldraw_s_1)
def w_Lany_s_1 : WS := (wRet (wBin dIx (wVar 1) (wCall sp_Ldraw (waCons (wVar 0) (waCons (wC (.int 95)) waNil)))))
def w_Lany : WS := (wSeq (wSet 1 (wC (.str " !\"#$&'()*+,-./0123456789:;<=>?@ABCDEFGHIJKLMNOPQRSTUVWXYZ[\\]^_`abcdefghijklmnopqrstuvwxyz{|}~\n"))) w_Lany_s_1)
def w_Ldoubling_l1_1 : WS := (wApp 2 (wBin dIx (wLst (waCons (wTup (waCons (wVar 4) (waCons (wVar 4) waNil))) (waCons (wTup (waCons (wVar 4) (waCons (wVar 4) waNil))) (waCons (wTup (waCons (wVar 4) (waCons (wVar 1) waNil))) (waCons (wTup (waCons (wVar 1) (waCons (wVar 4) waNil))) waNil))))) (wCall sp_Ldraw (waCons (wVar 0) (waCons (wC (.int 4)) waNil)))))
def w_Ldoubling_l1 : WS := (wSeq (wSet 4 (wBin dAdd (wC (.int 200)) (wVar 3))) w_Ldoubling_l1_1)
def w_Ldoubling_s_3 : WS := (wRet (wVar 2))
def w_Ldoubling_s_2 : WS := (wSeq (wFor (wiRng1 (waCons (wCall sp_Ldraw (waCons (wVar 0) (waCons (wC (.int 30)) waNil))) waNil)) (wgName 3) w_Ldoubling_l1) w_Ldoubling_s_3)
def w_Ldoubling_s_1 : WS := (wSeq (wSet 2 (wLst (waCons (wTup (waCons (wVar 1) (waCons (wVar 1) waNil))) waNil))) w_Ldoubling_s_2)
def w_Ldoubling : WS := (wSeq (wSet 1 (wBin dAdd (wC (.int 2)) (wCB dOrd (waCons (wCall sp_Lany (waCons (wVar 0) waNil)) waNil)))) w_Ldoubling_s_1)
def w_Lsizes_l2 : WS := (wIf (wTst (wBin dLt (wVar 5) (wC (.int 200)))) (wSet 4 (wBin dAdd (wVar 4) (wC (.int 1)))) (wSet 4 (wBin dAdd (wVar 4) (wBin dIx (wVar 1) (wBin dSub (wVar 5) (wC (.int 200)))))))
def w_Lsizes_l1_2 : WS := (wApp 1 (wVar 4))
def w_Lsizes_l1_1 : WS := (wSeq (wFor (wiSeq (wLst (waCons (wVar 2) (waCons (wVar 3) waNil)))) (wgName 5) w_Lsizes_l2) w_Lsizes_l1_2)
def w_Lsizes_l1 : WS := (wSeq (wSet 4 (wC (.int 0))) w_Lsizes_l1_1)
def w_Lsizes_s_2 : WS := (wRet (wVar 1))
def w_Lsizes_s_1 : WS := (wSeq (wFor (wiSeq (wVar 0)) (wgTup 2 (wgCons (wgName 2) (wgCons (wgName 3) wgNil))) w_Lsizes_l1) w_Lsizes_s_2)
def w_Lsizes : WS := (wSeq (wSet 1 (wLst waNil)) w_Lsizes_s_1)
def w_Ldrawn_codes_l1_1 : WS := (wIf (wTst (wBin dEq (wVar 4) (wC (.int 0)))) (wApp 2 (wBin dAdd (wC (.int 2)) (wCB dOrd (waCons (wCall sp_Lany (waCons (wVar 0) waNil)) waNil)))) (wIf (wTst (wBin dEq (wVar 4) (wC (.int 1)))) (wApp 2 (wBin dAdd (wC (.int 200)) (wCall sp_Ldraw (waCons (wVar 0) (waCons (wCB dLen (waCons (wVar 1) waNil)) waNil))))) (wApp 2 (wBin dAdd (wC (.int 200)) (wCall sp_Ldraw (waCons (wVar 0) (waCons (wCB dMin2 (waCons (wCB dLen (waCons (wVar 1) waNil)) (waCons (wC (.int 16)) waNil))) waNil)))))))
def w_Ldrawn_codes_l1 : WS := (wSeq (wSet 4 (wCall sp_Ldraw (waCons (wVar 0) (waCons (wC (.int 4)) waNil)))) w_Ldrawn_codes_l1_1)
def w_Ldrawn_codes_s_2 : WS := (wRet (wVar 2))
def w_Ldrawn_codes_s_1 : WS := (wSeq (wFor (wiRng1 (waCons (wCall sp_Ldraw (waCons (wVar 0) (waCons (wC (.int 21)) waNil))) waNil)) (wgName 3) w_Ldrawn_codes_l1) w_Ldrawn_codes_s_2)
def w_Ldrawn_codes : WS := (wSeq (wSet 2 (wLst waNil)) w_Ldrawn_codes_s_1)
def w_Lcell_s_1 : WS := (wRet (wC (.int 0)))
def w_Lcell : WS := (wSeq (wIf (wTst (wBin dLt (wVar 1) (wCB dLen (waCons (wVar 0) waNil)))) (wRet (wBin dIx (wVar 0) (wVar 1))) wNext) w_Lcell_s_1)
def w_Ldigits_l2 : WS := (wIf (wTst (wBin dGt (wVar 5) (wC (.int 0)))) (wSeq (wApp 3 (wBin dMod (wCB dInt (waCons (wVar 5) waNil)) (wC (.int 1000)))) (wSet 5 (wBin dFdiv (wVar 5) (wC (.int 1000))))) wNext)
def w_Ldigits_l3_1 : WS := (wApp 3 (wBin dMod (wCB dInt (waCons (wBin dFdiv (wVar 7) (wC (.int 997))) waNil)) (wC (.int 1000))))
def w_Ldigits_l3 : WS := (wSeq (wSet 7 (wBin dMod (wCB dInt (waCons (wBin dAdd (wBin dAdd (wBin dMul (wVar 7) (wC (.int 16807))) (wBin dMul (wC (.int 7)) (wVar 6))) (wC (.int 1))) waNil)) (wC (.int 2147483647)))) w_Ldigits_l3_1)
def w_Ldigits_l1_2 : WS := (wIf (wTst (wBin dGe (wVar 5) (wBin dPow (wC (.int 10)) (wC (.int 18))))) (wFor (wiRng1 (waCons (wC (.int 60)) waNil)) (wgName 6) w_Ldigits_l2) (wSeq (wSet 7 (wBin dMod (wCB dInt (waCons (wBin dAdd (wBin dAdd (wBin dMul (wVar 5) (wC (.int 48271))) (wBin dMul (wVar 4) (wC (.int 69621)))) (wC (.int 11))) waNil)) (wC (.int 2147483647)))) (wFor (wiRng1 (waCons (wC (.int 12)) waNil)) (wgName 6) w_Ldigits_l3)))
def w_Ldigits_l1_1 : WS := (wSeq (wIf (wTst (wBin dLt (wVar 5) (wC (.int 0)))) (wSet 5 (wBin dSub (wC (.int 1)) (wBin dMul (wC (.int 2)) (wVar 5)))) wNext) w_Ldigits_l1_2)
def w_Ldigits_l1 : WS := (wSeq (wSet 5 (wCall sp_Lcell (waCons (wVar 0) (waCons (wVar 4) waNil)))) w_Ldigits_l1_1)
def w_Ldigits_s_2 : WS := (wRet (wVar 3))
def w_Ldigits_s_1 : WS := (wSeq (wFor (wiRng2 (waCons (wVar 1) (waCons (wVar 2) waNil))) (wgName 4) w_Ldigits_l1) w_Ldigits_s_2)
def w_Ldigits : WS := (wSeq (wSet 3 (wLst waNil)) w_Ldigits_s_1)
def w_Lsame_l1 (spr : DS.Spec) : WS := (wIf (wNot (wTst (wCall spr (waCons (wBin dIx (wVar 0) (wVar 2)) (waCons (wBin dIx (wVar 1) (wVar 2)) waNil))))) (wRet (wC (.bl false))) wNext)
def w_Lsame_s_4 (spr : DS.Spec) : WS := (wRet (wAndV (wCB dIsi (waCons (wVar 0) (waCons (wC (.ty .int)) waNil))) (wAndV (wNotV (wCB dIsi (waCons (wVar 0) (waCons (wC (.ty .bool)) waNil)))) (wBin dEq (wVar 0) (wVar 1)))))
def w_Lsame_s_3 (spr : DS.Spec) : WS := (wSeq (wIf (wTst (wCB dIsi (waCons (wVar 1) (waCons (wC (.ty .str)) waNil)))) (wRet (wAndV (wCB dIsi (waCons (wVar 0) (waCons (wC (.ty .str)) waNil))) (wBin dEq (wVar 0) (wVar 1)))) wNext) (w_Lsame_s_4 spr))
def w_Lsame_s_2 (spr : DS.Spec) : WS := (wSeq (wIf (wTst (wCB dIsi (waCons (wVar 1) (waCons (wC (.ty .bool)) waNil)))) (wRet (wAndV (wCB dIsi (waCons (wVar 0) (waCons (wC (.ty .bool)) waNil))) (wBin dEq (wVar 0) (wVar 1)))) wNext) (w_Lsame_s_3 spr))
def w_Lsame_s_1 (spr : DS.Spec) : WS := (wSeq (wIf (wTst (wBin dIs (wVar 1) (wC .non))) (wRet (wBin dIs (wVar 0) (wC .non))) wNext) (w_Lsame_s_2 spr))
def w_Lsame (spr : DS.Spec) : WS := (wSeq (wIf (wOr (wTst (wCB dIsi (waCons (wVar 1) (waCons (wC (.ty .list)) waNil)))) (wTst (wCB dIsi (waCons (wVar 1) (waCons (wC (.ty .tuple)) waNil))))) (wSeq (wIf (wOr (wTst (wBin dNe (wCB dIsi (waCons (wVar 1) (waCons (wC (.ty .list)) waNil))) (wCB dIsi (waCons (wVar 0) (waCons (wC (.ty .list)) waNil))))) (wTst (wBin dNe (wCB dIsi (waCons (wVar 1) (waCons (wC (.ty .tuple)) waNil))) (wCB dIsi (waCons (wVar 0) (waCons (wC (.ty .tuple)) waNil)))))) (wRet (wC (.bl false))) wNext) (wSeq (wIf (wTst (wBin dNe (wCB dLen (waCons (wVar 0) waNil)) (wCB dLen (waCons (wVar 1) waNil)))) (wRet (wC (.bl false))) wNext) (wSeq (wFor (wiRng1 (waCons (wCB dLen (waCons (wVar 1) waNil)) waNil)) (wgName 2) (w_Lsame_l1 spr)) (wRet (wC (.bl true)))))) wNext) (w_Lsame_s_1 spr))
def w_u_char_table : WS := (wRet (wDc (.dK []) (wiStr (wC (.str "\n !\"#$&'()*+,-./0123456789:;<=>?@ABCDEFGHIJKLMNOPQRSTUVWXYZ[\\]^_`abcdefghijklmnopqrstuvwxyz{|}~"))) [0] (wgName 0) wtYes (wBin dAdd (wC (.int 2)) (wCB dOrd (waCons (wVar 0) waNil))) (wVar 0)))
def w_u_text_of_l1_1 : WS := (wIf (wTst (wBin dDIn (wVar 5) (wVar 2))) (wApp 4 (wBin dDGet (wVar 2) (wVar 5))) (wSeq (wAsg (wBin dIx (wVar 0) (wBin dSub (wVar 5) (wC (.int 200)))) (wgTup 2 (wgCons (wgName 6) (wgCons (wgName 7) wgNil)))) (wSeq (wApp 3 (wVar 7)) (wApp 3 (wVar 6)))))
def w_u_text_of_l1 : WS := (wSeq (wSetPop 5 3) w_u_text_of_l1_1)
def w_u_text_of_s_4 : WS := (wRet (wMt "str" dJoin (wC (.str "")) (waCons (wVar 4) waNil)))
def w_u_text_of_s_3 : WS := (wSeq (wWhile (wTst (wBin dGt (wCB dLen (waCons (wVar 3) waNil)) (wC (.int 0)))) w_u_text_of_l1) w_u_text_of_s_4)
def w_u_text_of_s_2 : WS := (wSeq (wSet 4 (wLst waNil)) w_u_text_of_s_3)
def w_u_text_of_s_1 : WS := (wSeq (wSet 3 (wLc (wiRevL (waCons (wVar 1) waNil)) [5] (wgName 5) wtYes (wVar 5))) w_u_text_of_s_2)
def w_u_text_of : WS := (wSeq (wSet 2 (wCall sp_u_char_table waNil)) w_u_text_of_s_1)
def w_u_lengths_l1_1 : WS := (wDPut 1 (wBin dAdd (wC (.int 200)) (wVar 2)) (wBin dAdd (wBin dDGet (wVar 1) (wVar 3)) (wBin dDGet (wVar 1) (wVar 4))))
def w_u_lengths_l1 : WS := (wSeq (wAsg (wBin dIx (wVar 0) (wVar 2)) (wgTup 2 (wgCons (wgName 3) (wgCons (wgName 4) wgNil)))) w_u_lengths_l1_1)
def w_u_lengths_s_2 : WS := (wRet (wVar 1))
def w_u_lengths_s_1 : WS := (wSeq (wFor (wiRng1 (waCons (wCB dLen (waCons (wVar 0) waNil)) waNil)) (wgName 2) w_u_lengths_l1) w_u_lengths_s_2)
def w_u_lengths : WS := (wSeq (wSet 1 (wDc (.dK []) (wiStr (wC (.str "\n !\"#$&'()*+,-./0123456789:;<=>?@ABCDEFGHIJKLMNOPQRSTUVWXYZ[\\]^_`abcdefghijklmnopqrstuvwxyz{|}~"))) [5] (wgName 5) wtYes (wBin dAdd (wC (.int 2)) (wCB dOrd (waCons (wVar 5) waNil))) (wC (.int 1)))) w_u_lengths_s_1)
def w_text_length_l1_1 : WS := (wAug 3 dIAdd (wBin dDGet (wVar 2) (wVar 4)))
def w_text_length_l1 : WS := (wSeq (wIf (wTst (wBin dDNotIn (wVar 4) (wVar 2))) (wRaise .UnknownCode ["code"] (waCons (wVar 4) waNil)) wNext) w_text_length_l1_1)
def w_text_length_s_3 : WS := (wRet (wVar 3))
def w_text_length_s_2 : WS := (wSeq (wFor (wiSeq (wVar 1)) (wgName 4) w_text_length_l1) w_text_length_s_3)
def w_text_length_s_1 : WS := (wSeq (wSet 3 (wC (.int 0))) w_text_length_s_2)
def w_text_length : WS := (wSeq (wSet 2 (wCall sp_u_lengths (waCons (wVar 0) waNil))) w_text_length_s_1)
def w_u_bounded_text_s_1 : WS := (wRet (wCall sp_u_text_of (waCons (wVar 0) (waCons (wVar 1) waNil))))
def w_u_bounded_text : WS := (wSeq (wIf (wTst (wBin dGt (wCallX sp_text_length (waCons (wVar 0) (waCons (wVar 1) waNil))) (wC (.int 100000)))) (wRaise0 .TooLarge) wNext) w_u_bounded_text_s_1)
def w_read_codes_s_1 : WS := (wRet (wTup (waCons (wSl (wVar 2) woN (woS (wUn dNeg (wC (.int 1))))) (waCons (wBin dIx (wVar 2) (wUn dNeg (wC (.int 1)))) waNil))))
def w_read_codes : WS := (wSeq (wSet 2 (wMt "str" dSplit (wCallX sp_u_bounded_text (waCons (wVar 0) (waCons (wVar 1) waNil))) (waCons (wC (.str " ")) waNil))) w_read_codes_s_1)
def w_code_text : WS := (wRet (wCallX sp_u_bounded_text (waCons (wVar 0) (waCons (wLst (waCons (wVar 1) waNil)) waNil))))
def w_Ltold : WS := (wTryAs2 cl .UnknownCode 5 .TooLarge 6 (wSeq (wIf (wTst (wBin dEq (wVar 0) (wC (.str "length")))) (wRet (wTup (waCons (wC (.str "length")) (waCons (wCallX sp_text_length (waCons (wVar 1) (waCons (wVar 2) waNil))) waNil)))) wNext) (wSeq (wIf (wTst (wBin dEq (wVar 0) (wC (.str "text")))) (wRet (wTup (waCons (wC (.str "text")) (waCons (wCB dLen (waCons (wCallX sp_code_text (waCons (wVar 1) (waCons (wBin dIx (wVar 2) (wC (.int 0))) waNil))) waNil)) waNil)))) wNext) (wSeq (wAsg (wCallX sp_read_codes (waCons (wVar 1) (waCons (wVar 2) waNil))) (wgTup 2 (wgCons (wgName 3) (wgCons (wgName 4) wgNil)))) (wRet (wTup (waCons (wC (.str "read")) (waCons (wBin dAdd (wCB dSum (waCons (wLc (wiSeq (wVar 3)) [7] (wgName 7) wtYes (wBin dAdd (wCB dLen (waCons (wVar 7) waNil)) (wC (.int 1)))) waNil)) (wCB dLen (waCons (wVar 4) waNil))) waNil))))))) (fun ea d x => (wSeq (wIf (wOr (wTst (wIsE ea d x cl .TooLarge (wVar 5))) (wOr (wTst (wIsE ea d x cl .InvalidBytes (wVar 5))) (wNot (wTst (wIsE ea d x cl .CorpusError (wVar 5)))))) (wRet (wTup (waCons (wC (.str "other")) waNil))) wNext) (wRet (wTup (waCons (wC (.str "unknown")) (waCons (wXf ea d x .UnknownCode "code" (wVar 5)) waNil)))))) (fun ea d x => (wSeq (wIf (wOr (wTst (wIsE ea d x cl .InvalidBytes (wVar 6))) (wOr (wNot (wTst (wIsE ea d x cl .CorpusError (wVar 6)))) (wNot (wTst (wIsV ea d x cl (wVar 6)))))) (wRet (wTup (waCons (wC (.str "other")) waNil))) wNext) (wRet (wTup (waCons (wC (.str "large")) waNil))))))
def w_Lsize_l1 : WS := (wIf (wTst (wBin dLt (wVar 3) (wC (.int 200)))) (wSet 2 (wBin dAdd (wVar 2) (wC (.int 1)))) (wSet 2 (wBin dAdd (wVar 2) (wBin dIx (wVar 0) (wBin dSub (wVar 3) (wC (.int 200)))))))
def w_Lsize_s_2 : WS := (wRet (wVar 2))
def w_Lsize_s_1 : WS := (wSeq (wFor (wiSeq (wVar 1)) (wgName 3) w_Lsize_l1) w_Lsize_s_2)
def w_Lsize : WS := (wSeq (wSet 2 (wC (.int 0))) w_Lsize_s_1)
def w_Ldue_s_3 : WS := (wRet (wTup (waCons (wVar 0) (waCons (wVar 4) waNil))))
def w_Ldue_s_2 : WS := (wSeq (wIf (wAnd (wTst (wBin dNe (wVar 0) (wC (.str "length")))) (wTst (wBin dGt (wVar 4) (wC (.int 100000))))) (wRet (wTup (waCons (wC (.str "large")) waNil))) wNext) w_Ldue_s_3)
def w_Ldue_s_1 : WS := (wSeq (wSet 4 (wCall sp_Lsize (waCons (wVar 1) (waCons (wVar 2) waNil)))) w_Ldue_s_2)
def w_Ldue : WS := (wSeq (wIf (wTst (wBin dGt (wCB dLen (waCons (wVar 3) waNil)) (wC (.int 0)))) (wRet (wTup (waCons (wC (.str "unknown")) (waCons (wBin dIx (wVar 3) (wC (.int 0))) waNil)))) wNext) w_Ldue_s_1)
def w_law_l1 : WS := (wIns 4 (wCall sp_Ldraw (waCons (wVar 1) (waCons (wBin dAdd (wCB dLen (waCons (wVar 4) waNil)) (wC (.int 1))) waNil))) (wBin dIx (wVar 5) (wCall sp_Ldraw (waCons (wVar 1) (waCons (wC (.int 10)) waNil)))))
def w_law_l2 : WS := (wIf (wNot (wTst (wCall (sp_Lsame 5) (waCons (wCall sp_Ltold (waCons (wVar 9) (waCons (wBin dIx (wVar 8) (wC (.int 0))) (waCons (wBin dIx (wVar 8) (wC (.int 1))) waNil)))) (waCons (wCall sp_Ldue (waCons (wVar 9) (waCons (wVar 3) (waCons (wVar 4) (waCons (wVar 7) waNil))))) waNil))))) (wRet (wC (.bl false))) wNext)
def w_law_l3_2 : WS := (wFzS 11 (wIf (wNot (wTst (wCall (sp_Lsame 5) (waCons (wCall sp_Ltold (waCons (wC (.str "text")) (waCons (wBin dIx (wVar 8) (wC (.int 0))) (waCons (wLst (waCons (wVar 10) waNil)) waNil)))) (waCons (wCall sp_Ldue (waCons (wC (.str "text")) (waCons (wVar 3) (waCons (wLst (waCons (wVar 10) waNil)) (waCons (wVar 11) waNil))))) waNil))))) (wRet (wC (.bl false))) wNext))
def w_law_l3_1 : WS := (wSeq (wIf (wTst (wBin dIn (wVar 10) (wVar 5))) (wApp 11 (wVar 10)) wNext) w_law_l3_2)
def w_law_l3 : WS := (wSeq (wSet 11 (wLst waNil)) w_law_l3_1)
def w_law_s_10 : WS := (wRet (wAndV (wCall (sp_Lsame 5) (waCons (wBin dIx (wVar 8) (wC (.int 0))) (waCons (wVar 2) waNil))) (wCall (sp_Lsame 5) (waCons (wBin dIx (wVar 8) (wC (.int 1))) (waCons (wVar 4) waNil)))))
def w_law_s_9 : WS := (wSeq (wFor (wiSeq (wSl (wVar 4) woN (woS (wC (.int 4))))) (wgName 10) w_law_l3) w_law_s_10)
def w_law_s_8 : WS := (wSeq (wFor (wiSeq (wLst (waCons (wC (.str "length")) (waCons (wC (.str "read")) waNil)))) (wgName 9) w_law_l2) w_law_s_9)
def w_law_s_7 : WS := (wFzS 7 (wSeq (wSet 8 (wLst (waCons (wCB dList (waCons (wVar 2) waNil)) (waCons (wCB dList (waCons (wVar 4) waNil)) waNil)))) w_law_s_8))
def w_law_s_6 : WS := (wFzS 4 (wSeq (wSet 7 (wLc (wiSeq (wVar 4)) [10] (wgName 10) (wTst (wBin dIn (wVar 10) (wVar 5))) (wVar 10))) w_law_s_7))
def w_law_s_5 : WS := (wSeq (wIf (wTst (wBin dEq (wCall sp_Ldraw (waCons (wVar 1) (waCons (wC (.int 2)) waNil))) (wC (.int 0)))) (wFor (wiRng1 (waCons (wBin dAdd (wC (.int 1)) (wCall sp_Ldraw (waCons (wVar 1) (waCons (wC (.int 2)) waNil)))) waNil)) (wgName 6) w_law_l1) wNext) w_law_s_6)
def w_law_s_4 : WS := (wSeq (wSet 5 (wLst (waCons (wC (.int 0)) (waCons (wC (.int 1)) (waCons (wC (.int 11)) (waCons (wC (.int 13)) (waCons (wC (.int 33)) (waCons (wC (.int 39)) (waCons (wC (.int 129)) (waCons (wC (.int 199)) (waCons (wBin dAdd (wC (.int 200)) (wCB dLen (waCons (wVar 2) waNil))) (waCons (wBin dAdd (wBin dAdd (wC (.int 201)) (wCB dLen (waCons (wVar 2) waNil))) (wCall sp_Ldraw (waCons (wVar 1) (waCons (wC (.int 900)) waNil)))) waNil)))))))))))) w_law_s_5)
def w_law_s_3 : WS := (wFzS 3 (wSeq (wSet 4 (wCall sp_Ldrawn_codes (waCons (wVar 1) (waCons (wVar 2) waNil)))) w_law_s_4))
def w_law_s_2 : WS := (wFzS 2 (wSeq (wSet 3 (wCall sp_Lsizes (waCons (wVar 2) waNil))) w_law_s_3))
def w_law_s_1 : WS := (wSeq (wSet 2 (wCall sp_Ldoubling (waCons (wVar 1) waNil))) w_law_s_2)
def w_law : WS := (wSeq (wSet 1 (wLst (waCons (wCall sp_Ldigits (waCons (wVar 0) (waCons (wC (.int 0)) (waCons (wC (.int 63)) waNil)))) (waCons (wC (.int 0)) waNil)))) w_law_s_1)
theorem pure_Lcell : ∀ as Q Qe, sp_Lcell as Q Qe → w_Lcell (ends0 as Q) (initA 2 as) := by
  rintro as Q Qe ⟨o, ns, k, rfl, hk, hq⟩
  conv => whnf
  refine br_i (fun h => ?_) (fun h => ?_)
  · rw [ds_len] at h
    conv => whnf
    refine at_int hk h ?_
    cases o <;> exact hq
  · rw [ds_len] at h
    have e : ns.getD k.toNat 0 = 0 := by
      rw [List.getD_eq_getElem?_getD, List.getElem?_eq_none (by omega)]
      rfl
    rw [e] at hq
    conv => whnf
    cases o <;> exact hq
theorem pure_Ldraw : ∀ as Q Qe, sp_Ldraw as Q Qe → w_Ldraw (ends0 as Q) (initA 3 as) := by
  rintro as Q Qe ⟨c, m, rfl, ⟨ds, n, rfl⟩, hm, hq⟩
  conv => whnf
  refine br_i (fun h => ?_) (fun h => ?_)
  · rw [ds_len] at h
    conv => whnf
    refine at_int (by omega) h ?_
    conv => whnf
    refine ⟨hm, ?_⟩
    conv => whnf
    exact hq _ _ (Int.emod_nonneg _ (by omega)) (Int.emod_lt_of_pos _ hm) ⟨ds, n + 1, rfl⟩
  · conv => whnf
    exact hq _ _ (by omega) hm ⟨ds, n + 1, rfl⟩
theorem pure_Ldigits : ∀ as Q Qe, sp_Ldigits as Q Qe → w_Ldigits (ends0 as Q) (initA 8 as) := by
  rintro as Q Qe ⟨ns, i, j, rfl, hi, hi2, hj, hj2, hq⟩
  conv => whnf
  refine ⟨Nat.zero_le _, ?_⟩
  conv => whnf
  refine ⟨by omega, ?_⟩
  conv => whnf
  refine for_r (fun n a => ∃ (ds : List Int) (x4 x5 x6 x7 : Option AV), a = [some ⟨.no, .rol (Ds ns)⟩, some ⟨.no, .int i⟩, some ⟨.no, .int j⟩, some ⟨.own, .lst (Ds ds)⟩, x4, x5, x6, x7] ∧ ds.length ≤ 60 * n) ⟨[], none, none, none, none, rfl, Nat.zero_le _⟩ ?_ ?_
  · rintro n a hn ⟨ds, x4, x5, x6, x7, rfl, hl⟩
    conv => whnf
    refine callS_i ⟨_, _, _, rfl, by omega, ?_⟩
    -- behind the reading of the cell: any int
    generalize ns.getD (i + (n : Int)).toNat 0 = c0
    conv => whnf
    -- the cell's own sign taken off
    have key : ∀ c : Int, wIf (wTst (wBin dGe (wVar 5) (wBin dPow (wC (.int 10)) (wC (.int 18))))) (wFor (wiRng1 (waCons (wC (.int 60)) waNil)) (wgName 6) (wIf (wTst (wBin dGt (wVar 5) (wC (.int 0)))) (wSeq (wApp 3 (wBin dMod (wCB dInt (waCons (wVar 5) waNil)) (wC (.int 1000))))
        (wSet 5 (wBin dFdiv (wVar 5) (wC (.int 1000))))) wNext)) (wSeq (wSet 7 (wBin dMod (wCB dInt (waCons (wBin dAdd (wBin dAdd (wBin dMul (wVar 5) (wC (.int 48271))) (wBin dMul (wVar 4) (wC (.int 69621)))) (wC (.int 11))) waNil)) (wC (.int 2147483647))))
        (wFor (wiRng1 (waCons (wC (.int 12)) waNil)) (wgName 6) (wSeq (wSet 7 (wBin dMod (wCB dInt (waCons (wBin dAdd (wBin dAdd (wBin dMul (wVar 7) (wC (.int 16807))) (wBin dMul (wC (.int 7)) (wVar 6))) (wC (.int 1))) waNil)) (wC (.int 2147483647))))
        (wApp 3 (wBin dMod (wCB dInt (waCons (wBin dFdiv (wVar 7) (wC (.int 997))) waNil)) (wC (.int 1000)))))))
        ⟨fun a => ∃ (ds : List Int) (x4 x5 x6 x7 : Option AV), a = [some ⟨.no, .rol (Ds ns)⟩, some ⟨.no, .int i⟩, some ⟨.no, .int j⟩, some ⟨.own, .lst (Ds ds)⟩, x4, x5, x6, x7] ∧ ds.length ≤ 60 * (n + 1), (ends0 [⟨.no, .rol (Ds ns)⟩, ⟨.no, .int i⟩, ⟨.no, .int j⟩] Q).rt,
          fun a => wRet (wVar 3) (ends0 [⟨.no, .rol (Ds ns)⟩, ⟨.no, .int i⟩, ⟨.no, .int j⟩] Q) a, fun a => ∃ (ds : List Int) (x4 x5 x6 x7 : Option AV), a = [some ⟨.no, .rol (Ds ns)⟩, some ⟨.no, .int i⟩, some ⟨.no, .int j⟩, some ⟨.own, .lst (Ds ds)⟩, x4, x5, x6, x7] ∧ ds.length ≤ 60 * (n + 1), (ends0 [⟨.no, .rol (Ds ns)⟩, ⟨.no, .int i⟩, ⟨.no, .int j⟩] Q).ex⟩
        [some ⟨.no, .rol (Ds ns)⟩, some ⟨.no, .int i⟩, some ⟨.no, .int j⟩, some ⟨.own, .lst (Ds ds)⟩, some ⟨.no, .int (i + (n : Int))⟩, some ⟨.no, .int c⟩, x6, x7] := by
      intro c
      conv => whnf
      refine ⟨⟨by decide, by decide, by decide⟩, ?_⟩
      conv => whnf
      refine br_i (fun h => ?_) (fun h => ?_)
      · conv => whnf
        refine ⟨by omega, ?_⟩
        conv => whnf
        refine for_r (fun m a => ∃ (ds : List Int) (c : Int) (x6 : Option AV), a = [some ⟨.no, .rol (Ds ns)⟩, some ⟨.no, .int i⟩, some ⟨.no, .int j⟩, some ⟨.own, .lst (Ds ds)⟩, some ⟨.no, .int (i + (n : Int))⟩, some ⟨.no, .int c⟩, x6, x7] ∧ ds.length ≤ 60 * n + m) ⟨ds, c, x6, rfl, by omega⟩ ?_ ?_
        · rintro m a hm ⟨ds, c, x6, rfl, hl⟩
          have hm : m < 60 := hm
          conv => whnf
          refine br_i (fun h => ?_) (fun h => ?_)
          · conv => whnf
            refine ⟨by omega, ?_⟩
            conv => whnf
            refine ⟨smaller (by rw [ds_len]; omega), ?_⟩
            conv => whnf
            refine ⟨⟨by decide, by decide⟩, ?_⟩
            exact ⟨ds ++ [c % 1000], c / 1000, _, by rw [ds_app]; rfl, by rw [List.length_append]; simp; omega⟩
          · exact ⟨ds, c, _, rfl, by omega⟩
        · rintro a ⟨ds, c, x6, rfl, hl⟩
          exact ⟨ds, _, _, _, _, rfl, by have : (60 : Int).toNat = 60 := rfl; omega⟩
      · conv => whnf
        refine ⟨cmul_r (by decide) (by decide), ?_⟩
        conv => whnf
        refine ⟨cmul_r (by decide) (by decide), ?_⟩
        conv => whnf
        refine ⟨by omega, ?_⟩
        conv => whnf
        refine ⟨by omega, ?_⟩
        conv => whnf
        refine for_r (fun m a => ∃ (ds : List Int) (c s : Int) (x6 : Option AV), a = [some ⟨.no, .rol (Ds ns)⟩, some ⟨.no, .int i⟩, some ⟨.no, .int j⟩, some ⟨.own, .lst (Ds ds)⟩, some ⟨.no, .int (i + (n : Int))⟩, some ⟨.no, .int c⟩, x6, some ⟨.no, .int s⟩] ∧ ds.length ≤ 60 * n + m) ⟨ds, c, _, x6, rfl, by omega⟩ ?_ ?_
        · rintro m a hm ⟨ds, c, s, x6, rfl, hl⟩
          have hm : m < 12 := hm
          conv => whnf
          refine ⟨cmul_r (by decide) (by decide), ?_⟩
          conv => whnf
          refine ⟨cmul_l (by decide) (by decide), ?_⟩
          conv => whnf
          refine ⟨by omega, ?_⟩
          conv => whnf
          refine ⟨⟨by decide, by decide⟩, ?_⟩
          conv => whnf
          refine ⟨by omega, ?_⟩
          conv => whnf
          refine ⟨smaller (by rw [ds_len]; omega), ?_⟩
          exact ⟨ds ++ [_], _, _, _, by rw [ds_app]; rfl, by rw [List.length_append]; simp; omega⟩
        · rintro a ⟨ds, c, s, x6, rfl, hl⟩
          exact ⟨ds, _, _, _, _, rfl, by have : (12 : Int).toNat = 12 := rfl; omega⟩
    refine br_i (fun h => ?_) (fun h => ?_)
    · conv => whnf
      refine ⟨cmul_l (by decide) (by decide), ?_⟩
      exact key _
    · exact key _
  · rintro a ⟨ds, x4, x5, x6, x7, rfl, hl⟩
    conv => whnf
    exact hq ds (by omega)
abbrev anyS : Str := " !\"#$&'()*+,-./0123456789:;<=>?@ABCDEFGHIJKLMNOPQRSTUVWXYZ[\\]^_`abcdefghijklmnopqrstuvwxyz{|}~\n"
abbrev solidS : Str := "!\"#$&'()*+,-./0123456789:;<=>?@ABCDEFGHIJKLMNOPQRSTUVWXYZ[\\]^_`abcdefghijklmnopqrstuvwxyz{|}~"
theorem any_at : ∀ r : Nat, r < 95 → ∃ x, anyS.cps.toList[r]? = some x ∧ ((x = 10 ∨ (32 ≤ x ∧ x < 127)) ∧ x ≠ 37) := by
  have h : ∀ r : Nat, r < 95 → (match anyS.cps.toList[r]? with | some x => decide ((x = 10 ∨ (32 ≤ x ∧ x < 127)) ∧ x ≠ 37) | none => false) = true := by decide +kernel
  intro r hr
  have := h r hr
  split at this
  · exact ⟨_, by assumption, of_decide_eq_true this⟩
  · cases this
theorem pure_Lany : ∀ as Q Qe, sp_Lany as Q Qe → w_Lany (ends0 as Q) (initA 2 as) := by
  rintro as Q Qe ⟨c, rfl, hb, hq⟩
  conv => whnf
  refine callS_i ⟨_, _, rfl, hb, by omega, fun r c' h0 h1 hb' => ?_⟩
  conv => whnf
  refine ⟨by decide +kernel, ?_⟩
  obtain ⟨x, h2, h3⟩ := any_at r.toNat (by omega)
  refine onO_of (atI_of h0 h2) ?_
  conv => whnf
  exact hq x c' h3 hb'
theorem pure_Lsame : ∀ n as Q Qe, sp_Lsame (n + 1) as Q Qe → w_Lsame (sp_Lsame n) (ends0 as Q) (initA 3 as) := by
  rintro n as Q Qe ⟨o, o', d, rfl, hp, hq⟩
  have seq : ∀ (xs : List D) (d : D), (d = .lst xs ∨ d = .tup xs) → (∀ x ∈ xs, ∀ m, n = m + 1 → Pl m x) → (∀ x ∈ xs, n ≠ 0) →
      forS (rangeD 0 (xs.length : Int).toNat) (wgName 2) (wIf (wNot (wTst (wCall (sp_Lsame n) (waCons (wBin dIx (wVar 0) (wVar 2)) (waCons (wBin dIx (wVar 1) (wVar 2)) waNil))))) (wRet (wC (.bl false))) wNext)
        ⟨fun a => ∃ x, a = [some ⟨o, d⟩, some ⟨o', d⟩, x], (ends0 [⟨o, d⟩, ⟨o', d⟩] Q).rt, fun _ => False, fun _ => False, fun _ _ => False⟩ [some ⟨o, d⟩, some ⟨o', d⟩, none] := by
    intro xs d hd hpl hn0
    refine for_r (fun _ a => ∃ x, a = [some ⟨o, d⟩, some ⟨o', d⟩, x]) ⟨_, rfl⟩ ?_ (fun a h => h)
    rintro i a hi ⟨x, rfl⟩
    have hi : i < xs.length := by simpa using hi
    have hx : xs[i]? = some xs[i] := List.getElem?_eq_getElem hi
    have hm : xs[i] ∈ xs := List.getElem_mem hi
    obtain ⟨m, rfl⟩ : ∃ m, n = m + 1 := ⟨n - 1, by have := hn0 _ hm; omega⟩
    have go : ∀ {f : D → Prop}, f xs[i] → onO (atI xs (0 + (i : Int))) f := fun hf => onO_of (atI_of (by omega) (by rw [show (0 + (i : Int)).toNat = i by omega]; exact hx)) hf
    rcases hd with rfl | rfl
    all_goals
      conv => whnf
      refine go ?_
      conv => whnf
      refine go ?_
      conv => whnf
      refine callS_i ⟨_, _, _, rfl, hpl _ hm m rfl, ?_⟩
      exact ⟨_, rfl⟩
  have fin : ∀ {b : Bool}, b = true → ∀ {r : Prop}, (Q ⟨.no, .bl b⟩ [⟨o, d⟩, ⟨o', d⟩] → r) → r := fun {b} e r k => k (by rw [e]; exact hq)
  cases d with
  | non => conv => whnf
           cases o <;> cases o' <;> exact hq
  | bl b =>
    conv => whnf
    refine fin (b := decide (b = b)) (decide_eq_true rfl) fun hq => ?_
    cases o <;> cases o' <;> exact hq
  | int b =>
    conv => whnf
    refine fin (b := decide (b = b)) (decide_eq_true rfl) fun hq => ?_
    cases o <;> cases o' <;> exact hq
  | str b =>
    conv => whnf
    refine fin (b := decide (b = b)) (decide_eq_true rfl) fun hq => ?_
    cases o <;> cases o' <;> exact hq
  | lst xs =>
    cases n with
    | zero => exact hp.elim
    | succ n =>
      obtain ⟨hl, hp⟩ := hp
      conv => whnf
      refine br_nt rfl ?_
      conv => whnf
      refine ⟨by omega, ?_⟩
      conv => whnf
      obtain ⟨Inv, h0, hs, he⟩ := for_d (seq xs (.lst xs) (.inl rfl) (fun x hx m e => by cases e; exact hp x hx) (fun x hx => by omega))
      refine for_i Inv h0 hs fun a h => ?_
      obtain ⟨x, rfl⟩ := he a h
      conv => whnf
      cases o <;> cases o' <;> exact hq
  | tup xs =>
    cases n with
    | zero => exact hp.elim
    | succ n =>
      obtain ⟨hl, hp⟩ := hp
      conv => whnf
      refine br_nt rfl ?_
      conv => whnf
      refine ⟨by omega, ?_⟩
      conv => whnf
      obtain ⟨Inv, h0, hs, he⟩ := for_d (seq xs (.tup xs) (.inr rfl) (fun x hx m e => by cases e; exact hp x hx) (fun x hx => by omega))
      refine for_i Inv h0 hs fun a h => ?_
      obtain ⟨x, rfl⟩ := he a h
      conv => whnf
      cases o <;> cases o' <;> exact hq
  | _ => cases n <;> exact hp.elim
theorem ch_lt {x : Nat} (h : x ∈ CH) : x < 127 ∧ 10 ≤ x := by
  have : ∀ y ∈ CH, y < 127 ∧ 10 ≤ y := by decide
  exact this x h
theorem ch_of {x : Nat} (h : (x = 10 ∨ (32 ≤ x ∧ x < 127)) ∧ x ≠ 37) : x ∈ CH := by
  have : ∀ y, y < 127 → ((y = 10 ∨ (32 ≤ y ∧ y < 127)) ∧ y ≠ 37) → y ∈ CH := by decide
  exact this x (by omega) h
theorem ch_solid {x : Nat} (h : solid x) : x ∈ CH := ch_of ⟨.inr ⟨by have := h.1; omega, h.2.1⟩, h.2.2⟩
theorem ch_nodup : CH.Nodup := by decide
theorem exC_base (J : Jn) {x : Nat} (h : x ∈ CH) : ∀ k, exC J k (2 + (x : Int)) = [x]
  | 0 => by
    show [((2 + (x : Int)) - 2).toNat] = [x]
    congr 1
    omega
  | k + 1 => by
    have := (ch_lt h).1
    rw [exC, if_neg (by omega), exC_base J h k]
/-- later joins do not touch an earlier code -/
theorem exC_up (J : Jn) {k : Nat} {c : Int} (h : Kn k c) : ∀ m, k ≤ m → exC J m c = exC J k c := by
  intro m hm
  induction m with
  | zero =>
    have : k = 0 := by omega
    rw [this]
  | succ m ih =>
    rcases Nat.lt_or_ge m k with z | z
    · have : k = m + 1 := by omega
      rw [this]
    · have hc : ¬ c = 200 + (m : Int) := by
        rcases h with ⟨x, hx, rfl⟩ | ⟨j, hj, rfl⟩
        · have := (ch_lt hx).1
          omega
        · omega
      rw [exC, if_neg hc, ih z]
theorem exC_join {J : Jn} {k : Nat} {p : Int × Int} (h : J[k]? = some p) (hJ : JOk J) {m : Nat} (hm : k < m) : exC J m (200 + (k : Int)) = exC J m p.1 ++ exC J m p.2 := by
  obtain ⟨h1, h2⟩ := hJ k p h
  rw [exC_up J (k := k + 1) (.inr ⟨k, Nat.lt_succ_self k, rfl⟩) m hm, exC, if_pos rfl, List.getD_eq_getElem?_getD, h]
  show exC J k p.1 ++ exC J k p.2 = _
  rw [exC_up J h1 m (by omega), exC_up J h2 m (by omega)]
theorem Kn.up {k m : Nat} {c : Int} (h : Kn k c) (hm : k ≤ m) : Kn m c := by
  rcases h with z | ⟨j, hj, e⟩
  · exact .inl z
  · exact .inr ⟨j, by omega, e⟩
theorem exC_pos {J : Jn} (hJ : JOk J) : ∀ (k : Nat) {c : Int}, k ≤ J.length → Kn k c → 1 ≤ (exC J k c).length
  | 0, c, _, _ => by
    show 1 ≤ [_].length
    simp
  | k + 1, c, hk, h => by
    obtain ⟨p, hp⟩ : ∃ p, J[k]? = some p := ⟨_, List.getElem?_eq_getElem (l := J) (by omega)⟩
    obtain ⟨h1, h2⟩ := hJ k p hp
    by_cases e : c = 200 + (k : Int)
    · rw [exC, if_pos e, List.getD_eq_getElem?_getD, hp, List.length_append]
      have := exC_pos hJ k (by omega) h1
      show 1 ≤ (exC J k p.1).length + (exC J k p.2).length
      omega
    · rw [exC, if_neg e]
      refine exC_pos hJ k (by omega) ?_
      rcases h with z | ⟨j, hj, z⟩
      · exact .inl z
      · refine .inr ⟨j, ?_, z⟩
        rcases Nat.lt_or_ge j k with y | y
        · exact y
        · have : j = k := by omega
          rw [this] at z
          exact absurd z e
theorem exC_big {J : Jn} (hJ : JOk J) (b : Nat) : ∀ (k : Nat) {c : Int}, k ≤ J.length → Kn k c → (exC J k c).length ≤ 2 ^ k
  | 0, c, _, _ => by
    show [_].length ≤ 1
    simp
  | k + 1, c, hk, h => by
    obtain ⟨p, hp⟩ : ∃ p, J[k]? = some p := ⟨_, List.getElem?_eq_getElem (l := J) (by omega)⟩
    obtain ⟨h1, h2⟩ := hJ k p hp
    have e2 : 2 ^ (k + 1) = 2 ^ k + 2 ^ k := by omega
    by_cases e : c = 200 + (k : Int)
    · rw [exC, if_pos e, List.getD_eq_getElem?_getD, hp, List.length_append]
      have a := exC_big hJ b k (by omega) h1
      have c := exC_big hJ b k (by omega) h2
      show (exC J k p.1).length + (exC J k p.2).length ≤ _
      omega
    · rw [exC, if_neg e]
      have := exC_big hJ b k (c := c) (by omega) (by
        rcases h with z | ⟨j, hj, z⟩
        · exact .inl z
        · refine .inr ⟨j, ?_, z⟩
          rcases Nat.lt_or_ge j k with y | y
          · exact y
          · have : j = k := by omega
            rw [this] at z
            exact absurd z e)
      omega
theorem ch_signs : signsD ("\n !\"#$&'()*+,-./0123456789:;<=>?@ABCDEFGHIJKLMNOPQRSTUVWXYZ[\\]^_`abcdefghijklmnopqrstuvwxyz{|}~" : Str) = CH.map chD := by rfl
theorem putD_new {κ α : Type} [DecidableEq κ] {kvs : List (κ × α)} {k : κ} {v : α} (h : ∀ e ∈ kvs, e.1 ≠ k) : putD kvs k v = kvs ++ [(k, v)] := by
  unfold putD
  rw [if_neg]
  intro z
  obtain ⟨e, he, hk⟩ := List.any_eq_true.mp z
  exact h e he (of_decide_eq_true hk)
def tabI (f : Nat → D) (i : Nat) : List (L2.Key × D) := (CH.take i).map fun (x : Nat) => (Sum.inl (2 + (x : Int)), f x)
theorem tabI_put {f : Nat → D} {i x : Nat} (h : CH[i]? = some x) : putD (tabI f i) (Sum.inl (2 + (x : Int))) (f x) = tabI f (i + 1) := by
  rw [putD_new]
  · unfold tabI
    rw [List.take_add_one, h, Option.toList_some, List.map_append]
    rfl
  · intro e he z
    obtain ⟨y, hy, rfl⟩ := List.mem_map.mp he
    have z : (2 + (y : Int)) = 2 + (x : Int) := Sum.inl.inj z
    have z : y = x := by omega
    subst z
    have hnd := ch_nodup
    rw [← List.take_append_drop i CH, List.nodup_append] at hnd
    have hm : y ∈ CH.drop i := by
      rw [List.mem_iff_getElem?]
      exact ⟨0, by rw [List.getElem?_drop]; exact h⟩
    exact hnd.2.2 y hy y hm rfl
theorem tabI_all (f : Nat → D) : tabI f CH.length = tabC f := by
  unfold tabI tabC
  rw [List.take_length]
theorem tabI_len (f : Nat → D) (i : Nat) : (tabI f i).length ≤ 100 := by
  unfold tabI
  rw [List.length_map, List.length_take]
  have : CH.length ≤ 100 := by decide
  omega
theorem valD_ch {f : Nat → D} {x : Nat} : ∀ {l : List Nat}, x ∈ l → valD (l.map fun (x : Nat) => ((Sum.inl (2 + (x : Int)) : L2.Key), f x)) (Sum.inl (2 + (x : Int))) = some (f x)
  | [], h => by cases h
  | y :: l, h => by
    rw [List.map_cons, valD_cons]
    by_cases e : (Sum.inl (2 + (y : Int)) : L2.Key) = Sum.inl (2 + (x : Int))
    · have : y = x := by have := Sum.inl.inj e; omega
      rw [if_pos e, this]
    · rw [if_neg e]
      rcases List.mem_cons.mp h with z | z
      · exact absurd (by rw [z]) e
      · exact valD_ch z
theorem valD_noch {f : Nat → D} {k : Nat} : ∀ {l : List Nat}, (∀ x ∈ l, x < 127) → valD (l.map fun (x : Nat) => ((Sum.inl (2 + (x : Int)) : L2.Key), f x)) (Sum.inl (200 + (k : Int))) = none
  | [], _ => rfl
  | y :: l, h => by
    rw [List.map_cons, valD_cons, if_neg, valD_noch fun x hx => h x (List.mem_cons_of_mem _ hx)]
    intro e
    have := h y (List.mem_cons_self ..)
    have := Sum.inl.inj e
    omega
theorem pure_u_char_table : ∀ as Q Qe, sp_u_char_table as Q Qe → w_u_char_table (ends0 as Q) (initA 1 as) := by
  rintro as Q Qe ⟨rfl, hq⟩
  conv => whnf
  skip
  rw [ch_signs]
  conv => whnf
  refine dc_i (fun i acc a => ∃ (x : Option AV), acc = .dK (tabI chD i) ∧ a = [x]) ⟨none, rfl, rfl⟩ ?_ ?_
  · rintro i acc a d hi ⟨x, rfl, rfl⟩
    rw [List.getElem?_map, Option.map_eq_some_iff] at hi
    obtain ⟨y, hy, rfl⟩ := hi
    conv => whnf
    refine ⟨rfl, ?_⟩
    have := tabI_len chD i
    conv => whnf
    refine ⟨smaller (by omega), _, ?_, rfl⟩
    exact congrArg D.dK (tabI_put hy)
  · rintro acc a ⟨x, rfl, rfl⟩
    rw [List.length_map, tabI_all]
    conv => whnf
    exact hq
theorem at_jd {J : Jn} {i : Int} {n : Nat} {p : Int × Int} {f : D → Prop} (hi : i = (n : Int)) (h : J[n]? = some p) (hf : f (jD p)) : onO (atI (joinsD J) i) f := by
  subst hi
  refine onO_of (atI_of (v := jD p) (by omega) ?_) hf
  rw [Int.toNat_natCast]
  unfold joinsD
  rw [List.getElem?_map, h]
  rfl
def wtC (J : Jn) (W : List Int) : Nat := (W.map fun c => 2 * (exC J J.length c).length).sum
theorem wtC_app (J : Jn) (W V : List Int) : wtC J (W ++ V) = wtC J W + wtC J V := by
  unfold wtC
  rw [List.map_append, List.sum_append]
theorem txt_app (J : Jn) (W V : List Int) : txt J (W ++ V) = txt J W ++ txt J V := by
  unfold txt
  rw [List.flatMap_append]
theorem joinL_flat : ∀ l : List (List Nat), TL.joinL [] l = l.flatten
  | [] => rfl
  | [p] => by
    show p = p ++ []
    rw [List.append_nil]
  | p :: q :: r => by
    show p ++ ([] ++ TL.joinL [] (q :: r)) = _
    rw [joinL_flat (q :: r)]
    rfl
theorem join_ch (out : List Nat) : Txt.join ("" : Str) (out.map fun x => ms [x]) = ms out := by
  refine TL.ext_tl ?_
  rw [TL.join_eq, TL.tl_join, show TL.tl ("" : Str) = [] by rfl, joinL_flat, List.map_map]
  show (out.map fun x => [x]).flatten = out
  induction out with
  | nil => rfl
  | cons y out ih => rw [List.map_cons, List.flatten_cons, ih]; rfl
theorem len_ch (out : List Nat) : ((out.map fun x => ms [x]).map (·.length)).sum = out.length := by
  induction out with
  | nil => rfl
  | cons y out ih =>
    rw [List.map_cons, List.map_cons, List.sum_cons, ih, List.length_cons]
    show 1 + out.length = _
    omega
theorem strs_ch : ∀ cs : List Nat, strsOf (cs.map chD) = some (cs.map fun x => ms [x])
  | [] => rfl
  | x :: cs => by
    show strsOf (chD x :: cs.map chD) = _
    unfold chD
    rw [strsOf]
    show (strsOf (cs.map chD)).map _ = _
    rw [strs_ch cs]
    rfl
theorem len_txt {J : Jn} (hJ : JOk J) : ∀ cs : List Int, COk J cs → cs.length ≤ (txt J cs).length
  | [], _ => Nat.zero_le _
  | c :: cs, hc => by
    have ih := len_txt hJ cs fun x hx => hc x (List.mem_cons_of_mem _ hx)
    have h1 := exC_pos hJ J.length (Nat.le_refl _) (hc c (List.mem_cons_self ..))
    show (c :: cs).length ≤ (exC J J.length c ++ txt J cs).length
    rw [List.length_append, List.length_cons]
    omega
theorem pure_u_text_of : ∀ as Q Qe, sp_u_text_of as Q Qe → w_u_text_of (ends0 as Q) (initA 8 as) := by
  rintro as Q Qe ⟨J, cs, rfl, hJ, hJl, hc, hlen, hq⟩
  have hcl := len_txt hJ cs hc
  have hjl : (joinsD J).length = J.length := List.length_map ..
  conv => whnf
  refine callS_i ⟨rfl, ?_⟩
  (try simp only [putBack, hold, resOf, initA, keepNo, wipeA, List.set_cons_zero, List.set_cons_succ, List.getElem?_cons_zero, List.getElem?_cons_succ, List.map_cons, List.map_nil, List.replicate_succ, List.replicate_zero, List.length_cons, List.length_nil, List.cons_append, List.nil_append, Nat.reduceSub, Nat.reduceAdd, Nat.zero_add, List.replicate])
  (try simp only [putBack, hold, resOf, initA, keepNo, wipeA, List.set_cons_zero, List.set_cons_succ, List.getElem?_cons_zero, List.getElem?_cons_succ, List.map_cons, List.map_nil, List.replicate_succ, List.replicate_zero, List.length_cons, List.length_nil, List.cons_append, List.nil_append, Nat.reduceSub, Nat.reduceAdd, Nat.zero_add, List.replicate])
  conv => whnf
  refine lc_i (fun i acc a => ∃ (x : Option AV), a = [some ⟨.no, .lst (joinsD J)⟩, some ⟨.no, .lst (Ds cs)⟩, some ⟨.own, .dK (tabC chD)⟩, none, none, x, none, none] ∧ acc = (Ds cs.reverse).take i) ⟨none, rfl, rfl⟩ ?_ ?_
  · rintro i acc a d hi ⟨x, rfl, rfl⟩
    have hil := (List.getElem?_eq_some_iff.mp hi).1
    rw [List.length_reverse, ds_len] at hil
    have hi : (Ds cs.reverse)[i]? = some d := by
      unfold Ds at hi ⊢
      rw [List.map_reverse]
      exact hi
    conv => whnf
    refine ⟨smaller (by rw [List.length_take, ds_len, List.length_reverse]; omega), _, rfl, by rw [List.take_add_one, hi]; rfl⟩
  · rintro acc a ⟨x, rfl, rfl⟩
    rw [List.length_reverse, ds_len, List.take_of_length_le (by rw [ds_len, List.length_reverse]; exact Nat.le_refl _)]
    (try simp only [putBack, hold, resOf, initA, keepNo, wipeA, List.set_cons_zero, List.set_cons_succ, List.getElem?_cons_zero, List.getElem?_cons_succ, List.map_cons, List.map_nil, List.replicate_succ, List.replicate_zero, List.length_cons, List.length_nil, List.cons_append, List.nil_append, Nat.reduceSub, Nat.reduceAdd, Nat.zero_add, List.replicate])
    conv => whnf
    refine ⟨(by first | omega | exact ⟨by omega, by omega⟩ | exact small (by simp only [List.length_cons, List.length_nil, List.length_append, List.length_map, List.length_dropLast, ds_len, DS.rangeD_len]; try omega) | exact smaller (by simp only [List.length_cons, List.length_nil, List.length_append, List.length_map, List.length_dropLast, ds_len, DS.rangeD_len]; omega) | exact cmul_r (by decide) (by decide) | exact cmul_l (by decide) (by decide) | exact ⟨by decide, by decide⟩ | exact cmul_l (by omega) (by omega) | exact cmul_r (by omega) (by omega) | (simp only [List.length_cons, List.length_nil, List.length_append, List.length_map, List.length_dropLast, ds_len]; omega)), ?_⟩
    (try simp only [putBack, hold, resOf, initA, keepNo, wipeA, List.set_cons_zero, List.set_cons_succ, List.getElem?_cons_zero, List.getElem?_cons_succ, List.map_cons, List.map_nil, List.replicate_succ, List.replicate_zero, List.length_cons, List.length_nil, List.cons_append, List.nil_append, Nat.reduceSub, Nat.reduceAdd, Nat.zero_add, List.replicate])
    conv => whnf
    refine while_i (fun m a => ∃ (W : List Int) (out : List Nat) (x5 x6 x7 : Option AV), a = [some ⟨.no, .lst (joinsD J)⟩, some ⟨.no, .lst (Ds cs)⟩, some ⟨.own, .dK (tabC chD)⟩, some ⟨.own, .lst (Ds W)⟩, some ⟨.own, .lst (out.map chD)⟩, x5, x6, x7] ∧ out ++ txt J W.reverse = txt J cs ∧ COk J W ∧ m = (W.map fun c => 2 * (exC J J.length c).length - 1).sum ∧ W.length + out.length ≤ (txt J cs).length) _ ⟨cs.reverse, [], none, none, none, rfl, by rw [List.reverse_reverse]; rfl, fun c h => hc c (List.mem_reverse.mp h), rfl, by rw [List.length_reverse]; simpa using hcl⟩ ?_
    rintro m a ⟨W, out, x5, x6, x7, rfl, htx, hW, rfl, hlw⟩
    rcases List.eq_nil_or_concat W with rfl | ⟨V, c, rfl⟩
    · have htx : out = txt J cs := by
        rw [← htx]
        show out = out ++ []
        rw [List.append_nil]
      have hs := strs_ch out
      have hjn := join_ch out
      have hlo := len_ch out
      conv => whnf
      refine ⟨rfl, ?_⟩
      conv => whnf
      skip
      rw [hs]
      conv => whnf
      refine ⟨?_, ?_⟩
      · rw [hlo]
        show out.length + _ * 0 ≤ 16777216
        rw [htx]
        omega
      · rw [hjn, htx]
        conv => whnf
        exact hq
    · rw [List.concat_eq_append] at *
      have hcW := hW c (List.mem_append_right _ (List.mem_singleton.mpr rfl))
      have hVk : COk J V := fun x hx => hW x (List.mem_append_left _ hx)
      have hgl : (Ds (V ++ [c])).getLast? = some (.int c) := by
        rw [ds_app]
        exact List.getLast?_concat
      have hdl : (Ds (V ++ [c])).dropLast = Ds V := by
        rw [ds_app]
        exact List.dropLast_concat
      rw [List.reverse_append, List.reverse_singleton, List.singleton_append] at htx
      have htx : out ++ (exC J J.length c ++ txt J V.reverse) = txt J cs := htx
      have hpos := exC_pos hJ J.length (Nat.le_refl _) hcW
      have hlt := congrArg List.length htx
      rw [List.length_append, List.length_append] at hlt
      have hvl := len_txt hJ V.reverse fun x hx => hVk x (List.mem_reverse.mp hx)
      rw [List.length_reverse] at hvl
      have hout : out.length ≤ 100000 := by omega
      rw [List.length_append, List.length_singleton] at hlw
      conv => whnf
      refine br_t (by rw [ds_len, List.length_append, List.length_singleton]; omega) ?_
      conv => whnf
      skip
      rw [hgl, hdl]
      (try simp only [putBack, hold, resOf, initA, keepNo, wipeA, List.set_cons_zero, List.set_cons_succ, List.getElem?_cons_zero, List.getElem?_cons_succ, List.map_cons, List.map_nil, List.replicate_succ, List.replicate_zero, List.length_cons, List.length_nil, List.cons_append, List.nil_append, Nat.reduceSub, Nat.reduceAdd, Nat.zero_add, List.replicate])
      rw [List.map_append, List.sum_append]
      show _
      have hm1 : (([c] : List Int).map fun c => 2 * (exC J J.length c).length - 1).sum = 2 * (exC J J.length c).length - 1 := by simp
      rw [hm1]
      have hsub : ∀ x ∈ CH, Kn 0 (2 + (x : Int)) := fun x hx => .inl ⟨x, hx, rfl⟩
      rcases hcW with ⟨y, hy, rfl⟩ | ⟨k, hk, rfl⟩
      · have hg : valD (tabC chD) (Sum.inl (2 + (y : Int))) = some (chD y) := valD_ch hy
        conv => whnf
        skip
        rw [hg]
        (try simp only [putBack, hold, resOf, initA, keepNo, wipeA, List.set_cons_zero, List.set_cons_succ, List.getElem?_cons_zero, List.getElem?_cons_succ, List.map_cons, List.map_nil, List.replicate_succ, List.replicate_zero, List.length_cons, List.length_nil, List.cons_append, List.nil_append, Nat.reduceSub, Nat.reduceAdd, Nat.zero_add, List.replicate])
        conv => whnf
        refine onO_of hg ?_
        conv => whnf
        refine ⟨smaller (by rw [List.length_map]; omega), ?_⟩
        rw [exC_base J hy] at htx hlt hm1 ⊢
        refine ⟨_, ?_, V, out ++ [y], some ⟨.no, .int (2 + (y : Int))⟩, x6, x7, by rw [List.map_append]; rfl, by rw [List.append_assoc]; exact htx, hVk, rfl, by rw [List.length_append, List.length_singleton]; omega⟩
        simp
      · have hg : valD (tabC chD) (Sum.inl (200 + (k : Int))) = none := valD_noch fun x hx => (ch_lt hx).1
        obtain ⟨p, hp⟩ : ∃ p, J[k]? = some p := ⟨_, List.getElem?_eq_getElem (l := J) hk⟩
        obtain ⟨k1, k2⟩ := hJ k p hp
        have hex := exC_join hp hJ hk
        have p1 := exC_pos hJ J.length (Nat.le_refl _) (k1.up (show k ≤ J.length by omega))
        have p2 := exC_pos hJ J.length (Nat.le_refl _) (k2.up (show k ≤ J.length by omega))
        rw [hex] at htx hlt hm1 ⊢
        rw [List.length_append (as := exC J J.length p.1)] at hlt
        conv => whnf
        skip
        rw [hg]
        (try simp only [putBack, hold, resOf, initA, keepNo, wipeA, List.set_cons_zero, List.set_cons_succ, List.getElem?_cons_zero, List.getElem?_cons_succ, List.map_cons, List.map_nil, List.replicate_succ, List.replicate_zero, List.length_cons, List.length_nil, List.cons_append, List.nil_append, Nat.reduceSub, Nat.reduceAdd, Nat.zero_add, List.replicate])
        conv => whnf
        refine at_jd (n := k) (by omega) hp ?_
        conv => whnf
        refine ⟨rfl, ?_⟩
        (try simp only [putBack, hold, resOf, initA, keepNo, wipeA, List.set_cons_zero, List.set_cons_succ, List.getElem?_cons_zero, List.getElem?_cons_succ, List.map_cons, List.map_nil, List.replicate_succ, List.replicate_zero, List.length_cons, List.length_nil, List.cons_append, List.nil_append, Nat.reduceSub, Nat.reduceAdd, Nat.zero_add, List.replicate])
        conv => whnf
        refine ⟨smaller (by rw [ds_len]; omega), ?_⟩
        (try simp only [putBack, hold, resOf, initA, keepNo, wipeA, List.set_cons_zero, List.set_cons_succ, List.getElem?_cons_zero, List.getElem?_cons_succ, List.map_cons, List.map_nil, List.replicate_succ, List.replicate_zero, List.length_cons, List.length_nil, List.cons_append, List.nil_append, Nat.reduceSub, Nat.reduceAdd, Nat.zero_add, List.replicate])
        conv => whnf
        refine ⟨smaller (by rw [List.length_append, ds_len]; simp only [List.length_cons, List.length_nil]; omega), ?_⟩
        refine ⟨_, ?_, V ++ [p.2] ++ [p.1], out, some ⟨.no, .int (200 + (k : Int))⟩, some ⟨.no, .int p.1⟩, some ⟨.no, .int p.2⟩, by rw [ds_app, ds_app]; rfl, ?_, ?_, rfl, by rw [List.length_append, List.length_append, List.length_singleton, List.length_singleton]; omega⟩
        · rw [List.map_append, List.map_append, List.sum_append, List.sum_append, List.length_append]
          simp only [List.map_cons, List.map_nil, List.sum_cons, List.sum_nil]
          omega
        · rw [List.reverse_append, List.reverse_append, List.reverse_singleton, List.reverse_singleton, List.singleton_append, List.singleton_append]
          show out ++ (exC J J.length p.1 ++ (exC J J.length p.2 ++ txt J V.reverse)) = _
          rw [← htx, List.append_assoc]
        · intro x hx
          rcases List.mem_append.mp hx with z | z
          · rcases List.mem_append.mp z with z | z
            · exact hVk x z
            · rw [List.mem_singleton.mp z]
              exact k2.up (by omega)
          · rw [List.mem_singleton.mp z]
            exact k1.up (by omega)
theorem spc_tl : TL.tl (" " : Str) = [32] := by rfl
theorem joinL_words : ∀ (ws : List (List Nat)) (r : List Nat), TL.joinL [32] (ws ++ [r]) = (ws.flatMap fun w => w ++ [32]) ++ r
  | [], r => rfl
  | [w], r => by
    show w ++ ([32] ++ r) = (w ++ [32] ++ []) ++ r
    rw [List.append_nil, List.append_assoc]
  | w :: v :: ws, r => by
    show w ++ ([32] ++ TL.joinL [32] (v :: ws ++ [r])) = _
    rw [joinL_words (v :: ws) r]
    simp [List.flatMap_cons]
theorem split_words {ws : List (List Nat)} {r : List Nat} (hw : ∀ w ∈ ws, 32 ∉ w) (hr : 32 ∉ r) : Txt.split (ms ((ws.flatMap fun w => w ++ [32]) ++ r)) (" " : Str) = (ws ++ [r]).map ms := by
  have e : ms ((ws.flatMap fun w => w ++ [32]) ++ r) = Txt.join (" " : Str) ((ws ++ [r]).map ms) := by
    refine TL.ext_tl ?_
    rw [TL.join_eq, TL.tl_join, spc_tl, List.map_map]
    show (ws.flatMap fun w => w ++ [32]) ++ r = TL.joinL [32] ((ws ++ [r]).map fun w => w)
    rw [List.map_id', joinL_words]
  rw [e]
  refine TL.split_join spc_tl (by rw [show (" " : Str) = ms [32] from rfl]; simp) (by simp) fun p hp => ?_
  obtain ⟨w, hwm, rfl⟩ := List.mem_map.mp hp
  show 32 ∉ w
  rcases List.mem_append.mp hwm with z | z
  · exact hw w z
  · rw [List.mem_singleton.mp z]
    exact hr
theorem cut_but1 (xs : List D) (y : D) : cutDs (xs ++ [y]) none (some (-1)) = xs := by
  have e : HT.sIx (xs ++ [y]).length (xs ++ [y]).length (some (-1)) = xs.length := by
    rw [List.length_append, List.length_singleton]
    unfold HT.sIx
    simp
    omega
  unfold cutDs
  rw [e, HT.sIx_none, List.drop_zero, Nat.sub_zero]
  exact List.take_left' rfl
theorem at_lastD (xs : List D) (x : D) : atI (xs ++ [x]) (-1) = some x := by
  unfold L2.atI ixN
  rw [List.length_append, List.length_singleton, if_neg (by decide), if_pos (by omega)]
  show (xs ++ [x])[((-1 : Int) + ((xs.length + 1 : Nat) : Int)).toNat]? = some x
  rw [show ((-1 : Int) + ((xs.length + 1 : Nat) : Int)).toNat = xs.length by omega, List.getElem?_append_right (Nat.le_refl _), Nat.sub_self]
  rfl

theorem jok_snoc {J : Jn} {p q : Int} (h : JOk J) (hp : Kn J.length p) (hq : Kn J.length q) : JOk (J ++ [(p, q)]) := by
  intro k x hx
  rcases Nat.lt_or_ge k J.length with z | z
  · rw [List.getElem?_append_left z] at hx
    exact h k x hx
  · rw [List.getElem?_append_right z] at hx
    have e : k - J.length = 0 := by
      rcases Nat.eq_zero_or_pos (k - J.length) with y | y
      · exact y
      · rw [List.getElem?_eq_none (by rw [List.length_singleton]; omega)] at hx
        cases hx
    rw [e] at hx
    have hx : (p, q) = x := Option.some.inj hx
    have : k = J.length := by omega
    subst hx this
    exact ⟨hp, hq⟩
theorem pl_joins {J : Jn} (h : J.length ≤ 1000) : Pl 4 (.lst (joinsD J)) := by
  refine ⟨by unfold joinsD; rw [List.length_map]; omega, fun x hx => ?_⟩
  obtain ⟨e, _, rfl⟩ := List.mem_map.mp hx
  exact ⟨by simp, by simp [Pl]⟩

theorem valD_nochar {f : Nat → D} {c : Int} : ∀ {l : List Nat}, (∀ x ∈ l, c ≠ 2 + (x : Int)) → valD (l.map fun (x : Nat) => ((Sum.inl (2 + (x : Int)) : L2.Key), f x)) (Sum.inl c) = none
  | [], _ => rfl
  | y :: l, h => by
    rw [List.map_cons, valD_cons, if_neg, valD_nochar fun x hx => h x (List.mem_cons_of_mem _ hx)]
    intro e
    exact h y (List.mem_cons_self ..) (Sum.inl.inj e).symm
theorem pure_u_lengths : ∀ as Q Qe, sp_u_lengths as Q Qe → w_u_lengths (ends0 as Q) (initA 6 as) := by
  rintro as Q Qe ⟨J, rfl, hJ, hJl, hq⟩
  have hjl : (joinsD J).length = J.length := List.length_map ..
  conv => whnf
  skip
  rw [ch_signs]
  conv => whnf
  refine dc_i (fun i acc a => ∃ (x : Option AV), acc = .dK (tabI (fun _ => .int 1) i) ∧ a = [some ⟨.no, .lst (joinsD J)⟩, none, none, none, none, x]) ⟨none, rfl, rfl⟩ ?_ ?_
  · rintro i acc a d hi ⟨x, rfl, rfl⟩
    rw [List.getElem?_map, Option.map_eq_some_iff] at hi
    obtain ⟨y, hy, rfl⟩ := hi
    conv => whnf
    refine ⟨rfl, ?_⟩
    have := tabI_len (fun _ => .int 1) i
    conv => whnf
    refine ⟨smaller (by omega), _, ?_, rfl⟩
    exact congrArg D.dK (tabI_put (f := fun _ => .int 1) hy)
  · rintro acc a ⟨x, rfl, rfl⟩
    rw [List.length_map, tabI_all]
    (try simp only [putBack, hold, resOf, initA, keepNo, wipeA, List.set_cons_zero, List.set_cons_succ, List.getElem?_cons_zero, List.getElem?_cons_succ, List.map_cons, List.map_nil, List.replicate_succ, List.replicate_zero, List.length_cons, List.length_nil, List.cons_append, List.nil_append, Nat.reduceSub, Nat.reduceAdd, Nat.zero_add, List.replicate])
    conv => whnf
    refine ⟨by rw [hjl]; omega, ?_⟩
    rw [hjl]
    (try simp only [putBack, hold, resOf, initA, keepNo, wipeA, List.set_cons_zero, List.set_cons_succ, List.getElem?_cons_zero, List.getElem?_cons_succ, List.map_cons, List.map_nil, List.replicate_succ, List.replicate_zero, List.length_cons, List.length_nil, List.cons_append, List.nil_append, Nat.reduceSub, Nat.reduceAdd, Nat.zero_add, List.replicate])
    conv => whnf
    refine for_r (fun k a => ∃ (kvs : List (L2.Key × D)) (x2 x3 x4 : Option AV), a = [some ⟨.no, .lst (joinsD J)⟩, some ⟨.own, .dK kvs⟩, x2, x3, x4, none] ∧ LenT J k kvs ∧ ∀ c, ¬ Kn k c → valD kvs (Sum.inl c) = none) ⟨_, none, none, none, rfl, ⟨fun c hc => ?_, ?_⟩, fun c hc => ?_⟩ ?_ ?_
    · rcases hc with ⟨y, hy, rfl⟩ | ⟨j, hj, _⟩
      · rw [exC_base J hy]
        exact valD_ch hy
      · omega
    · show (CH.map _).length ≤ _
      rw [List.length_map]
      decide
    · exact valD_nochar fun x hx z => hc (.inl ⟨x, hx, z⟩)
    · rintro k a hk ⟨kvs, x2, x3, x4, rfl, ⟨hkv, hkl⟩, hno⟩
      have hk : k < J.length := by omega
      obtain ⟨p, hp⟩ : ∃ p, J[k]? = some p := ⟨_, List.getElem?_eq_getElem hk⟩
      obtain ⟨h1, h2⟩ := hJ k p hp
      conv => whnf
      refine at_jd (n := k) (by omega) hp ?_
      conv => whnf
      refine ⟨rfl, ?_⟩
      (try simp only [putBack, hold, resOf, initA, keepNo, wipeA, List.set_cons_zero, List.set_cons_succ, List.getElem?_cons_zero, List.getElem?_cons_succ, List.map_cons, List.map_nil, List.replicate_succ, List.replicate_zero, List.length_cons, List.length_nil, List.cons_append, List.nil_append, Nat.reduceSub, Nat.reduceAdd, Nat.zero_add, List.replicate])
      conv => whnf
      refine onO_of (hkv p.1 h1) ?_
      conv => whnf
      refine onO_of (hkv p.2 h2) ?_
      conv => whnf
      refine ⟨smaller (by omega), ?_⟩
      refine ⟨_, some ⟨.no, .int (0 + (k : Int))⟩, some ⟨.no, .int p.1⟩, some ⟨.no, .int p.2⟩, rfl, ⟨fun c hc => ?_, by have := putD_len kvs (Sum.inl (200 + (0 + (k : Int)))) (.int (((exC J k p.1).length : Nat) + ((exC J k p.2).length : Nat)) : D); omega⟩, fun c hc => ?_⟩
      · rw [valD_put]
        by_cases e : c = 200 + (k : Int)
        · rw [if_pos (by rw [e]; congr 1; omega), e, exC, if_pos rfl, List.getD_eq_getElem?_getD, hp, List.length_append]
          rfl
        · rw [if_neg (fun z => e (by have := Sum.inl.inj z; omega)), exC, if_neg e]
          refine hkv c ?_
          rcases hc with z | ⟨j, hj, z⟩
          · exact .inl z
          · refine .inr ⟨j, ?_, z⟩
            rcases Nat.lt_or_ge j k with y | y
            · exact y
            · have : j = k := by omega
              rw [this] at z
              exact absurd z e
      · rw [valD_put, if_neg (fun z => hc (.inr ⟨k, by omega, by have := Sum.inl.inj z; omega⟩))]
        exact hno c fun z => hc (z.up (by omega))
    · rintro a ⟨kvs, x2, x3, x4, rfl, hkv, hno⟩
      rw [show ((J.length : Int)).toNat = J.length by omega] at hkv hno
      conv => whnf
      exact hq kvs hkv hno
theorem txt_take {J : Jn} {cs : List Int} {i : Nat} {c : Int} (h : cs[i]? = some c) : txt J (cs.take (i + 1)) = txt J (cs.take i) ++ exC J J.length c := by
  unfold txt
  rw [List.take_add_one, h, Option.toList_some, List.flatMap_append, List.flatMap_cons, List.flatMap_nil, List.append_nil]
theorem pure_text_length : ∀ as Q Qe, sp_text_length as Q Qe → w_text_length (endsX as Q Qe) (initA 5 as) := by
  rintro as Q Qe ⟨J, cs, rfl, hJ, hJl, hq⟩
  conv => whnf
  refine callS_i ⟨_, rfl, hJ, hJl, fun kvs hkv hno => ?_⟩
  (try simp only [putBack, hold, resOf, initA, keepNo, wipeA, List.set_cons_zero, List.set_cons_succ, List.getElem?_cons_zero, List.getElem?_cons_succ, List.map_cons, List.map_nil, List.replicate_succ, List.replicate_zero, List.length_cons, List.length_nil, List.cons_append, List.nil_append, Nat.reduceSub, Nat.reduceAdd, Nat.zero_add, List.replicate])
  have hpre : ∃ n, n ≤ cs.length ∧ (∀ i c, i < n → cs[i]? = some c → Kn J.length c) ∧ (n < cs.length → ∃ c, cs[n]? = some c ∧ ¬ Kn J.length c ∧ c.natAbs.log2 < 1920 ∧ Qe (eUnk c) [⟨.no, .lst (joinsD J)⟩, ⟨.no, .lst (Ds cs)⟩]) ∧ (n = cs.length → Q ⟨.no, .int ((txt J cs).length : Nat)⟩ [⟨.no, .lst (joinsD J)⟩, ⟨.no, .lst (Ds cs)⟩]) := by
    rcases hq with ⟨c, ⟨pre, post, e, h1, h2, h3⟩, h4⟩ | ⟨h1, h2⟩
    · refine ⟨pre.length, by rw [e, List.length_append]; omega, fun i c hi hc => h1 c ?_, fun _ => ⟨c, ?_, h2, h3, h4⟩, fun z => ?_⟩
      · rw [e, List.getElem?_append_left hi] at hc
        exact List.mem_of_getElem? hc
      · rw [e, List.getElem?_append_right (Nat.le_refl _), Nat.sub_self]
        rfl
      · rw [e, List.length_append, List.length_cons] at z
        omega
    · exact ⟨cs.length, Nat.le_refl _, fun i c _ hc => h1 c (List.mem_of_getElem? hc), fun z => absurd z (Nat.lt_irrefl _), fun _ => h2⟩
  obtain ⟨n, hn, hk, hbad, hgood⟩ := hpre
  conv => whnf
  refine for_i (fun i a => ∃ (x4 : Option AV), a = [some ⟨.no, .lst (joinsD J)⟩, some ⟨.no, .lst (Ds cs)⟩, some ⟨.own, .dK kvs⟩, some ⟨.no, .int ((txt J (cs.take i)).length : Nat)⟩, x4] ∧ i ≤ n) ⟨none, rfl, Nat.zero_le _⟩ ?_ ?_
  · rintro i a d hi ⟨x4, rfl, hin⟩
    obtain ⟨c, hci, rfl⟩ := ds_of hi
    have hil := (List.getElem?_eq_some_iff.mp hci).1
    rcases Nat.lt_or_ge i n with z | z
    · have hg := hkv.1 c (hk i c z hci)
      conv => whnf
      skip
      rw [hg]
      (try simp only [putBack, hold, resOf, initA, keepNo, wipeA, List.set_cons_zero, List.set_cons_succ, List.getElem?_cons_zero, List.getElem?_cons_succ, List.map_cons, List.map_nil, List.replicate_succ, List.replicate_zero, List.length_cons, List.length_nil, List.cons_append, List.nil_append, Nat.reduceSub, Nat.reduceAdd, Nat.zero_add, List.replicate])
      conv => whnf
      refine onO_of hg ?_
      refine ⟨some ⟨.no, .int c⟩, ?_, z⟩
      rw [txt_take hci, List.length_append]
      rfl
    · have : i = n := by omega
      subst this
      obtain ⟨c', hc', hnk, hl, hqe⟩ := hbad hil
      rw [hci] at hc'
      obtain rfl := Option.some.inj hc'
      have hg := hno c hnk
      conv => whnf
      skip
      rw [hg]
      (try simp only [putBack, hold, resOf, initA, keepNo, wipeA, List.set_cons_zero, List.set_cons_succ, List.getElem?_cons_zero, List.getElem?_cons_succ, List.map_cons, List.map_nil, List.replicate_succ, List.replicate_zero, List.length_cons, List.length_nil, List.cons_append, List.nil_append, Nat.reduceSub, Nat.reduceAdd, Nat.zero_add, List.replicate])
      conv => whnf
      refine ⟨rfl, fun d hd => ?_, ?_⟩
      · rcases List.mem_singleton.mp hd
        exact hl
      · conv => whnf
        exact hqe
  · rintro a ⟨x4, rfl, hin⟩
    rw [ds_len] at hin
    rw [ds_len, List.take_length]
    conv => whnf
    exact hgood (by omega)

theorem pure_u_bounded_text : ∀ as Q Qe, sp_u_bounded_text as Q Qe → w_u_bounded_text (endsX as Q Qe) (initA 2 as) := by
  rintro as Q Qe ⟨J, cs, rfl, hJ, hJl, hq⟩
  rcases hq with ⟨c, hu, hq⟩ | ⟨hc, hlen, hq⟩ | ⟨hc, hlen, hq⟩
  · conv => whnf
    refine callX_i ⟨J, cs, rfl, hJ, hJl, .inl ⟨c, hu, ?_⟩⟩
    conv => whnf
    exact hq
  · conv => whnf
    refine callX_i ⟨J, cs, rfl, hJ, hJl, .inr ⟨hc, ?_⟩⟩
    conv => whnf
    refine br_t (by omega) ?_
    conv => whnf
    exact hq
  · conv => whnf
    refine callX_i ⟨J, cs, rfl, hJ, hJl, .inr ⟨hc, ?_⟩⟩
    conv => whnf
    refine br_f (by omega) ?_
    conv => whnf
    refine callS_i ⟨_, _, rfl, hJ, hJl, hc, hlen, ?_⟩
    (try simp only [putBack, hold, resOf, initA, keepNo, wipeA, List.set_cons_zero, List.set_cons_succ, List.getElem?_cons_zero, List.getElem?_cons_succ, List.map_cons, List.map_nil, List.replicate_succ, List.replicate_zero, List.length_cons, List.length_nil, List.cons_append, List.nil_append, Nat.reduceSub, Nat.reduceAdd, Nat.zero_add, List.replicate])
    conv => whnf
    exact hq
theorem pure_code_text : ∀ as Q Qe, sp_code_text as Q Qe → w_code_text (endsX as Q Qe) (initA 2 as) := by
  rintro as Q Qe ⟨J, c0, rfl, hJ, hJl, hq⟩
  conv => whnf
  refine ⟨(by first | omega | exact ⟨by omega, by omega⟩ | exact small (by simp only [List.length_cons, List.length_nil, List.length_append, List.length_map, List.length_dropLast, ds_len, DS.rangeD_len]; try omega) | exact smaller (by simp only [List.length_cons, List.length_nil, List.length_append, List.length_map, List.length_dropLast, ds_len, DS.rangeD_len]; omega) | exact cmul_r (by decide) (by decide) | exact cmul_l (by decide) (by decide) | exact ⟨by decide, by decide⟩ | exact cmul_l (by omega) (by omega) | exact cmul_r (by omega) (by omega) | (simp only [List.length_cons, List.length_nil, List.length_append, List.length_map, List.length_dropLast, ds_len]; omega)), ?_⟩
  rcases hq with ⟨c, hu, hq⟩ | ⟨hc, hlen, hq⟩ | ⟨hc, hlen, hq⟩
  · conv => whnf
    refine callX_i ⟨J, [c0], rfl, hJ, hJl, .inl ⟨c, hu, ?_⟩⟩
    conv => whnf
    exact hq
  · conv => whnf
    refine callX_i ⟨J, [c0], rfl, hJ, hJl, .inr (.inl ⟨hc, hlen, ?_⟩)⟩
    conv => whnf
    exact hq
  · conv => whnf
    refine callX_i ⟨J, [c0], rfl, hJ, hJl, .inr (.inr ⟨hc, hlen, ?_⟩)⟩
    conv => whnf
    exact hq
theorem pure_read_codes : ∀ as Q Qe, sp_read_codes as Q Qe → w_read_codes (endsX as Q Qe) (initA 3 as) := by
  rintro as Q Qe ⟨J, cs, rfl, hJ, hJl, hq⟩
  rcases hq with ⟨c, hu, hq⟩ | ⟨hc, hlen, hq⟩ | ⟨ws, r, hc, hlen, htx, hw, hr, hq⟩
  · conv => whnf
    refine callX_i ⟨J, cs, rfl, hJ, hJl, .inl ⟨c, hu, ?_⟩⟩
    conv => whnf
    exact hq
  · conv => whnf
    refine callX_i ⟨J, cs, rfl, hJ, hJl, .inr (.inl ⟨hc, hlen, ?_⟩)⟩
    conv => whnf
    exact hq
  · conv => whnf
    refine callX_i ⟨J, cs, rfl, hJ, hJl, .inr (.inr ⟨hc, hlen, ?_⟩)⟩
    have hsp := split_words hw hr
    rw [← htx] at hsp
    have ed : ((ws ++ [r]).map ms).map D.str = wsD ws ++ [.str (ms r)] := by
      rw [List.map_map, List.map_append]
      rfl
    conv => whnf
    refine ⟨rfl, ?_⟩
    conv => whnf
    refine ⟨⟨by decide, small (by show (txt J cs).length + 2 ≤ _; omega)⟩, ?_⟩
    rw [hsp, ed]
    (try simp only [putBack, hold, resOf, initA, keepNo, wipeA, List.set_cons_zero, List.set_cons_succ, List.getElem?_cons_zero, List.getElem?_cons_succ, List.map_cons, List.map_nil, List.replicate_succ, List.replicate_zero, List.length_cons, List.length_nil, List.cons_append, List.nil_append, Nat.reduceSub, Nat.reduceAdd, Nat.zero_add, List.replicate])
    conv => whnf
    skip
    rw [cut_but1]
    conv => whnf
    refine onO_of (at_lastD _ _) ?_
    conv => whnf
    refine ⟨(by first | omega | exact ⟨by omega, by omega⟩ | exact small (by simp only [List.length_cons, List.length_nil, List.length_append, List.length_map, List.length_dropLast, ds_len, DS.rangeD_len]; try omega) | exact smaller (by simp only [List.length_cons, List.length_nil, List.length_append, List.length_map, List.length_dropLast, ds_len, DS.rangeD_len]; omega) | exact cmul_r (by decide) (by decide) | exact cmul_l (by decide) (by decide) | exact ⟨by decide, by decide⟩ | exact cmul_l (by omega) (by omega) | exact cmul_r (by omega) (by omega) | (simp only [List.length_cons, List.length_nil, List.length_append, List.length_map, List.length_dropLast, ds_len]; omega)), ?_⟩
    conv => whnf
    exact hq
theorem words_ex : ∀ t : List Nat, ∃ (ws : List (List Nat)) (r : List Nat), t = (ws.flatMap fun w => w ++ [32]) ++ r ∧ (∀ w ∈ ws, 32 ∉ w) ∧ 32 ∉ r
  | [] => ⟨[], [], rfl, fun w h => (by cases h), by simp⟩
  | x :: t => by
    obtain ⟨ws, r, h1, h2, h3⟩ := words_ex t
    by_cases e : x = 32
    · exact ⟨[] :: ws, r, by rw [e, h1]; rfl, fun w hw => by
        rcases List.mem_cons.mp hw with z | z
        · rw [z]; simp
        · exact h2 w z, h3⟩
    · match ws with
      | [] => exact ⟨[], x :: r, by rw [h1]; rfl, fun w h => (by cases h), by simp only [List.mem_cons, not_or]; exact ⟨fun z => e z.symm, h3⟩⟩
      | w :: ws =>
        refine ⟨(x :: w) :: ws, r, by rw [h1]; rfl, fun v hv => ?_, h3⟩
        rcases List.mem_cons.mp hv with z | z
        · rw [z]
          simp only [List.mem_cons, not_or]
          exact ⟨fun z => e z.symm, h2 w (List.mem_cons_self ..)⟩
        · exact h2 v (List.mem_cons_of_mem _ z)
theorem flat_sum (ws : List (List Nat)) : ((ws.map fun w => ((w.length : Int) + 1)).sum) = ((ws.flatMap fun w => w ++ [32]).length : Nat) := by
  induction ws with
  | nil => rfl
  | cons w ws ih =>
    rw [List.map_cons, List.sum_cons, ih, List.flatMap_cons, List.length_append, List.length_append]
    show ((w.length : Int) + 1) + _ = ((w.length + 1 + _ : Nat) : Int)
    omega
theorem cost_char {J : Jn} {c : Int} (h : Kn J.length c) (h2 : c < 200) : cost J c = 1 := by
  rcases h with ⟨x, hx, rfl⟩ | ⟨j, hj, rfl⟩
  · unfold cost
    rw [exC_base J hx]
    rfl
  · omega
theorem szs_len (J : Jn) : (szs J).length = J.length := by
  unfold szs
  rw [List.length_map, List.length_range]
theorem szs_get {J : Jn} {c : Int} (h : Kn J.length c) (h2 : ¬ c < 200) : 200 ≤ c ∧ c - 200 < J.length ∧ (szs J)[(c - 200).toNat]? = some (cost J c) := by
  rcases h with ⟨x, hx, rfl⟩ | ⟨j, hj, rfl⟩
  · have := (ch_lt hx).1
    omega
  · refine ⟨by omega, by omega, ?_⟩
    rw [show ((200 + (j : Int)) - 200).toNat = j by omega]
    unfold szs
    rw [List.getElem?_map, List.getElem?_range hj]
    rfl
theorem pure_Lsize : ∀ as Q Qe, sp_Lsize as Q Qe → w_Lsize (ends0 as Q) (initA 4 as) := by
  rintro as Q Qe ⟨J, cs, rfl, hc, hq⟩
  conv => whnf
  refine for_i (fun i a => ∃ (x3 : Option AV), a = [some ⟨.no, .lst (Ds (szs J))⟩, some ⟨.no, .lst (Ds cs)⟩, some ⟨.no, .int ((txt J (cs.take i)).length : Nat)⟩, x3]) ⟨none, rfl⟩ ?_ ?_
  · rintro i a d hi ⟨x3, rfl⟩
    obtain ⟨c, hci, rfl⟩ := ds_of hi
    have hk := hc c (List.mem_of_getElem? hci)
    have e := congrArg (fun n : Nat => (n : Int)) (congrArg List.length (txt_take (J := J) hci))
    simp only [List.length_append] at e
    conv => whnf
    refine br_i (fun h => ?_) (fun h => ?_)
    · have := cost_char hk h
      unfold cost at this
      refine ⟨some ⟨.no, .int c⟩, ?_⟩
      rw [e, Int.natCast_add, this]
      rfl
    · obtain ⟨h1, h2, h3⟩ := szs_get hk h
      conv => whnf
      refine onO_of (atI_of (by omega) (ds_get h3)) ?_
      refine ⟨some ⟨.no, .int c⟩, ?_⟩
      rw [e, Int.natCast_add]
      rfl
  · rintro a ⟨x3, rfl⟩
    rw [ds_len, List.take_length]
    conv => whnf
    exact hq
theorem filt_nil {J : Jn} {cs : List Int} (h : COk J cs) : cs.filter (fun c => !kn J.length c) = [] := by
  rw [List.filter_eq_nil_iff]
  intro c hc
  rw [kn_iff.mpr (h c hc)]
  simp
theorem filt_unk {J : Jn} {cs : List Int} {c : Int} (h : Unk J cs c) : ∃ r, cs.filter (fun c => !kn J.length c) = c :: r := by
  obtain ⟨pre, post, rfl, h1, h2, _⟩ := h
  refine ⟨post.filter (fun c => !kn J.length c), ?_⟩
  rw [List.filter_append, filt_nil h1, List.filter_cons, if_pos]
  · rfl
  · cases e : kn J.length c with
    | true => exact absurd (kn_iff.mp e) h2
    | false => rfl
theorem pure_Ldue : ∀ as Q Qe, sp_Ldue as Q Qe → w_Ldue (ends0 as Q) (initA 5 as) := by
  rintro as Q Qe ⟨s, J, cs, us, d, rfl, ht, rfl, hq⟩
  rcases ht with ⟨c, hu, rfl⟩ | ⟨hc, hs, hl, rfl⟩ | ⟨hc, hs, rfl⟩
  · obtain ⟨r, hr⟩ := filt_unk hu
    rw [hr] at hq ⊢
    conv => whnf
    refine br_t (by rw [ds_len, List.length_cons]; omega) ?_
    conv => whnf
    refine onO_of (atI_of (v := .int c) (by omega) rfl) ?_
    conv => whnf
    refine ⟨(by first | omega | exact ⟨by omega, by omega⟩ | exact small (by simp only [List.length_cons, List.length_nil, List.length_append, List.length_map, List.length_dropLast, ds_len, DS.rangeD_len]; try omega) | exact smaller (by simp only [List.length_cons, List.length_nil, List.length_append, List.length_map, List.length_dropLast, ds_len, DS.rangeD_len]; omega) | exact cmul_r (by decide) (by decide) | exact cmul_l (by decide) (by decide) | exact ⟨by decide, by decide⟩ | exact cmul_l (by omega) (by omega) | exact cmul_r (by omega) (by omega) | (simp only [List.length_cons, List.length_nil, List.length_append, List.length_map, List.length_dropLast, ds_len]; omega)), ?_⟩
    conv => whnf
    exact hq
  · rw [filt_nil hc] at hq ⊢
    conv => whnf
    refine callS_i ⟨_, _, rfl, hc, ?_⟩
    (try simp only [putBack, hold, resOf, initA, keepNo, wipeA, List.set_cons_zero, List.set_cons_succ, List.getElem?_cons_zero, List.getElem?_cons_succ, List.map_cons, List.map_nil, List.replicate_succ, List.replicate_zero, List.length_cons, List.length_nil, List.cons_append, List.nil_append, Nat.reduceSub, Nat.reduceAdd, Nat.zero_add, List.replicate])
    conv => whnf
    refine br_nf hs ?_
    conv => whnf
    refine br_t (by omega) ?_
    conv => whnf
    refine ⟨(by first | omega | exact ⟨by omega, by omega⟩ | exact small (by simp only [List.length_cons, List.length_nil, List.length_append, List.length_map, List.length_dropLast, ds_len, DS.rangeD_len]; try omega) | exact smaller (by simp only [List.length_cons, List.length_nil, List.length_append, List.length_map, List.length_dropLast, ds_len, DS.rangeD_len]; omega) | exact cmul_r (by decide) (by decide) | exact cmul_l (by decide) (by decide) | exact ⟨by decide, by decide⟩ | exact cmul_l (by omega) (by omega) | exact cmul_r (by omega) (by omega) | (simp only [List.length_cons, List.length_nil, List.length_append, List.length_map, List.length_dropLast, ds_len]; omega)), ?_⟩
    conv => whnf
    exact hq
  · rw [filt_nil hc] at hq ⊢
    conv => whnf
    refine callS_i ⟨_, _, rfl, hc, ?_⟩
    (try simp only [putBack, hold, resOf, initA, keepNo, wipeA, List.set_cons_zero, List.set_cons_succ, List.getElem?_cons_zero, List.getElem?_cons_succ, List.map_cons, List.map_nil, List.replicate_succ, List.replicate_zero, List.length_cons, List.length_nil, List.cons_append, List.nil_append, Nat.reduceSub, Nat.reduceAdd, Nat.zero_add, List.replicate])
    by_cases e : s = "length"
    · subst e
      conv => whnf
      refine ⟨(by first | omega | exact ⟨by omega, by omega⟩ | exact small (by simp only [List.length_cons, List.length_nil, List.length_append, List.length_map, List.length_dropLast, ds_len, DS.rangeD_len]; try omega) | exact smaller (by simp only [List.length_cons, List.length_nil, List.length_append, List.length_map, List.length_dropLast, ds_len, DS.rangeD_len]; omega) | exact cmul_r (by decide) (by decide) | exact cmul_l (by decide) (by decide) | exact ⟨by decide, by decide⟩ | exact cmul_l (by omega) (by omega) | exact cmul_r (by omega) (by omega) | (simp only [List.length_cons, List.length_nil, List.length_append, List.length_map, List.length_dropLast, ds_len]; omega)), ?_⟩
      conv => whnf
      exact hq
    · rcases hs with hs | hs
      · exact absurd hs e
      · conv => whnf
        refine br_nf e ?_
        conv => whnf
        refine br_f (by omega) ?_
        conv => whnf
        refine ⟨(by first | omega | exact ⟨by omega, by omega⟩ | exact small (by simp only [List.length_cons, List.length_nil, List.length_append, List.length_map, List.length_dropLast, ds_len, DS.rangeD_len]; try omega) | exact smaller (by simp only [List.length_cons, List.length_nil, List.length_append, List.length_map, List.length_dropLast, ds_len, DS.rangeD_len]; omega) | exact cmul_r (by decide) (by decide) | exact cmul_l (by decide) (by decide) | exact ⟨by decide, by decide⟩ | exact cmul_l (by omega) (by omega) | exact cmul_r (by omega) (by omega) | (simp only [List.length_cons, List.length_nil, List.length_append, List.length_map, List.length_dropLast, ds_len]; omega)), ?_⟩
        conv => whnf
        exact hq

theorem pure_Ldoubling : ∀ as Q Qe, sp_Ldoubling as Q Qe → w_Ldoubling (ends0 as Q) (initA 5 as) := by
  rintro as Q Qe ⟨c, rfl, hb, hq⟩
  conv => whnf
  refine callS_i ⟨_, rfl, hb, fun x c2 hx hb => ?_⟩
  have hx := ch_of hx
  conv => whnf
  refine ⟨rfl, ?_⟩
  conv => whnf
  refine ⟨(by first | omega | exact ⟨by omega, by omega⟩ | exact small (by simp only [List.length_cons, List.length_nil, List.length_append, List.length_map, List.length_dropLast, ds_len, DS.rangeD_len]; try omega) | exact smaller (by simp only [List.length_cons, List.length_nil, List.length_append, List.length_map, List.length_dropLast, ds_len, DS.rangeD_len]; omega) | exact cmul_r (by decide) (by decide) | exact cmul_l (by decide) (by decide) | exact ⟨by decide, by decide⟩ | exact cmul_l (by omega) (by omega) | exact cmul_r (by omega) (by omega) | (simp only [List.length_cons, List.length_nil, List.length_append, List.length_map, List.length_dropLast, ds_len]; omega)), ?_⟩
  conv => whnf
  refine ⟨(by first | omega | exact ⟨by omega, by omega⟩ | exact small (by simp only [List.length_cons, List.length_nil, List.length_append, List.length_map, List.length_dropLast, ds_len, DS.rangeD_len]; try omega) | exact smaller (by simp only [List.length_cons, List.length_nil, List.length_append, List.length_map, List.length_dropLast, ds_len, DS.rangeD_len]; omega) | exact cmul_r (by decide) (by decide) | exact cmul_l (by decide) (by decide) | exact ⟨by decide, by decide⟩ | exact cmul_l (by omega) (by omega) | exact cmul_r (by omega) (by omega) | (simp only [List.length_cons, List.length_nil, List.length_append, List.length_map, List.length_dropLast, ds_len]; omega)), ?_⟩
  (try simp only [putBack, hold, resOf, initA, keepNo, wipeA, List.set_cons_zero, List.set_cons_succ, List.getElem?_cons_zero, List.getElem?_cons_succ, List.map_cons, List.map_nil, List.replicate_succ, List.replicate_zero, List.length_cons, List.length_nil, List.cons_append, List.nil_append, Nat.reduceSub, Nat.reduceAdd, Nat.zero_add, List.replicate])
  conv => whnf
  refine callS_i ⟨_, _, rfl, hb, by omega, fun m bx m_0 m_1 hb => ?_⟩
  (try simp only [putBack, hold, resOf, initA, keepNo, wipeA, List.set_cons_zero, List.set_cons_succ, List.getElem?_cons_zero, List.getElem?_cons_succ, List.map_cons, List.map_nil, List.replicate_succ, List.replicate_zero, List.length_cons, List.length_nil, List.cons_append, List.nil_append, Nat.reduceSub, Nat.reduceAdd, Nat.zero_add, List.replicate])
  conv => whnf
  refine ⟨(by first | omega | exact ⟨by omega, by omega⟩ | exact small (by simp only [List.length_cons, List.length_nil, List.length_append, List.length_map, List.length_dropLast, ds_len, DS.rangeD_len]; try omega) | exact smaller (by simp only [List.length_cons, List.length_nil, List.length_append, List.length_map, List.length_dropLast, ds_len, DS.rangeD_len]; omega) | exact cmul_r (by decide) (by decide) | exact cmul_l (by decide) (by decide) | exact ⟨by decide, by decide⟩ | exact cmul_l (by omega) (by omega) | exact cmul_r (by omega) (by omega) | (simp only [List.length_cons, List.length_nil, List.length_append, List.length_map, List.length_dropLast, ds_len]; omega)), ?_⟩
  have hch : ∀ k, Kn k (2 + (x : Int)) := fun k => .inl ⟨x, hx, rfl⟩
  conv => whnf
  refine for_r (fun i a => ∃ (c : D) (J : Jn) (x3 x4 : Option AV), a = [some ⟨.lent, c⟩, some ⟨.no, .int (2 + (x : Int))⟩, some ⟨.own, .lst (joinsD J)⟩, x3, x4] ∧ isBox c ∧ J.length = i + 1 ∧ JOk J) ?_ ?_ ?_
  · refine ⟨_, [(2 + (x : Int), 2 + (x : Int))], none, none, rfl, hb, rfl, fun k p h => ?_⟩
    match k, h with
    | 0, h => obtain rfl := Option.some.inj h; exact ⟨hch _, hch _⟩
    | k + 1, h => simp at h
  · rintro i a hi ⟨c, J, x3, x4, rfl, hb, hl, hJ⟩
    have hi : i < m.toNat := hi
    (try simp only [putBack, hold, resOf, initA, keepNo, wipeA, List.set_cons_zero, List.set_cons_succ, List.getElem?_cons_zero, List.getElem?_cons_succ, List.map_cons, List.map_nil, List.replicate_succ, List.replicate_zero, List.length_cons, List.length_nil, List.cons_append, List.nil_append, Nat.reduceSub, Nat.reduceAdd, Nat.zero_add, List.replicate])
    have kb : Kn J.length (200 + (0 + (i : Int))) := .inr ⟨i, by omega, by omega⟩
    have fin : ∀ (p q : Int), Kn J.length p → Kn J.length q → ∀ c : D, isBox c → ∃ (c' : D) (J' : Jn) (x3 x4 : Option AV), [some ⟨.lent, c⟩, some ⟨.no, .int (2 + (x : Int))⟩, some ⟨.own, .lst (joinsD J ++ [.tup [.int p, .int q]])⟩, some ⟨.no, .int (0 + (i : Int))⟩, some ⟨.no, .int (200 + (0 + (i : Int)))⟩] = [some ⟨.lent, c'⟩, some ⟨.no, .int (2 + (x : Int))⟩, some ⟨.own, .lst (joinsD J')⟩, x3, x4] ∧ isBox c' ∧ J'.length = i + 1 + 1 ∧ JOk J' := fun p q hp hq c hb =>
      ⟨c, J ++ [(p, q)], _, _, by unfold joinsD; rw [List.map_append]; rfl, hb, by rw [List.length_append, hl]; rfl, jok_snoc hJ hp hq⟩
    have hjl : (joinsD J).length < 16000000 := by unfold joinsD; rw [List.length_map]; omega
    conv => whnf
    refine ⟨(by first | omega | exact ⟨by omega, by omega⟩ | exact small (by simp only [List.length_cons, List.length_nil, List.length_append, List.length_map, List.length_dropLast, ds_len, DS.rangeD_len]; try omega) | exact smaller (by simp only [List.length_cons, List.length_nil, List.length_append, List.length_map, List.length_dropLast, ds_len, DS.rangeD_len]; omega) | exact cmul_r (by decide) (by decide) | exact cmul_l (by decide) (by decide) | exact ⟨by decide, by decide⟩ | exact cmul_l (by omega) (by omega) | exact cmul_r (by omega) (by omega) | (simp only [List.length_cons, List.length_nil, List.length_append, List.length_map, List.length_dropLast, ds_len]; omega)), ?_⟩
    conv => whnf
    refine ⟨(by first | omega | exact ⟨by omega, by omega⟩ | exact small (by simp only [List.length_cons, List.length_nil, List.length_append, List.length_map, List.length_dropLast, ds_len, DS.rangeD_len]; try omega) | exact smaller (by simp only [List.length_cons, List.length_nil, List.length_append, List.length_map, List.length_dropLast, ds_len, DS.rangeD_len]; omega) | exact cmul_r (by decide) (by decide) | exact cmul_l (by decide) (by decide) | exact ⟨by decide, by decide⟩ | exact cmul_l (by omega) (by omega) | exact cmul_r (by omega) (by omega) | (simp only [List.length_cons, List.length_nil, List.length_append, List.length_map, List.length_dropLast, ds_len]; omega)), ?_⟩
    conv => whnf
    refine ⟨(by first | omega | exact ⟨by omega, by omega⟩ | exact small (by simp only [List.length_cons, List.length_nil, List.length_append, List.length_map, List.length_dropLast, ds_len, DS.rangeD_len]; try omega) | exact smaller (by simp only [List.length_cons, List.length_nil, List.length_append, List.length_map, List.length_dropLast, ds_len, DS.rangeD_len]; omega) | exact cmul_r (by decide) (by decide) | exact cmul_l (by decide) (by decide) | exact ⟨by decide, by decide⟩ | exact cmul_l (by omega) (by omega) | exact cmul_r (by omega) (by omega) | (simp only [List.length_cons, List.length_nil, List.length_append, List.length_map, List.length_dropLast, ds_len]; omega)), ?_⟩
    conv => whnf
    refine ⟨(by first | omega | exact ⟨by omega, by omega⟩ | exact small (by simp only [List.length_cons, List.length_nil, List.length_append, List.length_map, List.length_dropLast, ds_len, DS.rangeD_len]; try omega) | exact smaller (by simp only [List.length_cons, List.length_nil, List.length_append, List.length_map, List.length_dropLast, ds_len, DS.rangeD_len]; omega) | exact cmul_r (by decide) (by decide) | exact cmul_l (by decide) (by decide) | exact ⟨by decide, by decide⟩ | exact cmul_l (by omega) (by omega) | exact cmul_r (by omega) (by omega) | (simp only [List.length_cons, List.length_nil, List.length_append, List.length_map, List.length_dropLast, ds_len]; omega)), ?_⟩
    conv => whnf
    refine ⟨(by first | omega | exact ⟨by omega, by omega⟩ | exact small (by simp only [List.length_cons, List.length_nil, List.length_append, List.length_map, List.length_dropLast, ds_len, DS.rangeD_len]; try omega) | exact smaller (by simp only [List.length_cons, List.length_nil, List.length_append, List.length_map, List.length_dropLast, ds_len, DS.rangeD_len]; omega) | exact cmul_r (by decide) (by decide) | exact cmul_l (by decide) (by decide) | exact ⟨by decide, by decide⟩ | exact cmul_l (by omega) (by omega) | exact cmul_r (by omega) (by omega) | (simp only [List.length_cons, List.length_nil, List.length_append, List.length_map, List.length_dropLast, ds_len]; omega)), ?_⟩
    conv => whnf
    refine callS_i ⟨_, _, rfl, hb, by omega, fun r bx r_0 r_1 hb => ?_⟩
    (try simp only [putBack, hold, resOf, initA, keepNo, wipeA, List.set_cons_zero, List.set_cons_succ, List.getElem?_cons_zero, List.getElem?_cons_succ, List.map_cons, List.map_nil, List.replicate_succ, List.replicate_zero, List.length_cons, List.length_nil, List.cons_append, List.nil_append, Nat.reduceSub, Nat.reduceAdd, Nat.zero_add, List.replicate])
    have hr : r = 0 ∨ r = 1 ∨ r = 2 ∨ r = 3 := by omega
    rcases hr with rfl | rfl | rfl | rfl
    · conv => whnf
      refine ⟨smaller hjl, ?_⟩
      exact fin _ _ kb kb _ hb
    · conv => whnf
      refine ⟨smaller hjl, ?_⟩
      exact fin _ _ kb kb _ hb
    · conv => whnf
      refine ⟨smaller hjl, ?_⟩
      exact fin _ _ kb (hch _) _ hb
    · conv => whnf
      refine ⟨smaller hjl, ?_⟩
      exact fin _ _ (hch _) kb _ hb
  · rintro a ⟨c, J, x3, x4, rfl, hb, hl, hJ⟩
    conv => whnf
    exact hq J c (by omega) (by omega) hJ hb
theorem jd_of {J : Jn} {i : Nat} {d : D} (h : (joinsD J)[i]? = some d) : ∃ p, J[i]? = some p ∧ d = jD p := by
  unfold joinsD at h
  rw [List.getElem?_map, Option.map_eq_some_iff] at h
  obtain ⟨p, hp, rfl⟩ := h
  exact ⟨p, hp, rfl⟩
theorem szs_take {J : Jn} {i : Nat} (h : i < J.length) : (szs J).take (i + 1) = (szs J).take i ++ [cost J (200 + (i : Int))] := by
  have e : (szs J)[i]? = some (cost J (200 + (i : Int))) := by
    unfold szs
    rw [List.getElem?_map, List.getElem?_range h]
    rfl
  rw [List.take_add_one, e]
  rfl
theorem pure_Lsizes : ∀ as Q Qe, sp_Lsizes as Q Qe → w_Lsizes (ends0 as Q) (initA 6 as) := by
  rintro as Q Qe ⟨J, rfl, hJ, hJl, hq⟩
  conv => whnf
  refine ⟨(by first | omega | exact ⟨by omega, by omega⟩ | exact small (by simp only [List.length_cons, List.length_nil, List.length_append, List.length_map, List.length_dropLast, ds_len, DS.rangeD_len]; try omega) | exact smaller (by simp only [List.length_cons, List.length_nil, List.length_append, List.length_map, List.length_dropLast, ds_len, DS.rangeD_len]; omega) | exact cmul_r (by decide) (by decide) | exact cmul_l (by decide) (by decide) | exact ⟨by decide, by decide⟩ | exact cmul_l (by omega) (by omega) | exact cmul_r (by omega) (by omega) | (simp only [List.length_cons, List.length_nil, List.length_append, List.length_map, List.length_dropLast, ds_len]; omega)), ?_⟩
  (try simp only [putBack, hold, resOf, initA, keepNo, wipeA, List.set_cons_zero, List.set_cons_succ, List.getElem?_cons_zero, List.getElem?_cons_succ, List.map_cons, List.map_nil, List.replicate_succ, List.replicate_zero, List.length_cons, List.length_nil, List.cons_append, List.nil_append, Nat.reduceSub, Nat.reduceAdd, Nat.zero_add, List.replicate])
  conv => whnf
  refine for_i (fun i a => ∃ (x2 x3 x4 x5 : Option AV), a = [some ⟨.no, .lst (joinsD J)⟩, some ⟨.own, .lst (Ds ((szs J).take i))⟩, x2, x3, x4, x5]) ⟨none, none, none, none, rfl⟩ ?_ ?_
  · rintro i a d hi ⟨x2, x3, x4, x5, rfl⟩
    obtain ⟨p, hp, rfl⟩ := jd_of hi
    have hil := (List.getElem?_eq_some_iff.mp hp).1
    obtain ⟨k1, k2⟩ := hJ i p hp
    conv => whnf
    refine ⟨rfl, ?_⟩
    (try simp only [putBack, hold, resOf, initA, keepNo, wipeA, List.set_cons_zero, List.set_cons_succ, List.getElem?_cons_zero, List.getElem?_cons_succ, List.map_cons, List.map_nil, List.replicate_succ, List.replicate_zero, List.length_cons, List.length_nil, List.cons_append, List.nil_append, Nat.reduceSub, Nat.reduceAdd, Nat.zero_add, List.replicate])
    conv => whnf
    refine ⟨(by first | omega | exact ⟨by omega, by omega⟩ | exact small (by simp only [List.length_cons, List.length_nil, List.length_append, List.length_map, List.length_dropLast, ds_len, DS.rangeD_len]; try omega) | exact smaller (by simp only [List.length_cons, List.length_nil, List.length_append, List.length_map, List.length_dropLast, ds_len, DS.rangeD_len]; omega) | exact cmul_r (by decide) (by decide) | exact cmul_l (by decide) (by decide) | exact ⟨by decide, by decide⟩ | exact cmul_l (by omega) (by omega) | exact cmul_r (by omega) (by omega) | (simp only [List.length_cons, List.length_nil, List.length_append, List.length_map, List.length_dropLast, ds_len]; omega)), ?_⟩
    conv => whnf
    refine for_i (fun j a => ∃ (x5 : Option AV), a = [some ⟨.no, .lst (joinsD J)⟩, some ⟨.own, .lst (Ds ((szs J).take i))⟩, some ⟨.no, .int p.1⟩, some ⟨.no, .int p.2⟩, some ⟨.no, .int ((([p.1, p.2] : List Int).take j).map (cost J)).sum⟩, x5]) ⟨x5, rfl⟩ ?_ ?_
    · rintro j a d hj ⟨x5, rfl⟩
      obtain ⟨c, hc, rfl⟩ := ds_of (ns := [p.1, p.2]) hj
      have kc : Kn i c := by
        have := List.mem_of_getElem? hc
        simp only [List.mem_cons, List.not_mem_nil, or_false] at this
        rcases this with rfl | rfl
        · exact k1
        · exact k2
      have ke : ((([p.1, p.2] : List Int).take (j + 1)).map (cost J)).sum = ((([p.1, p.2] : List Int).take j).map (cost J)).sum + cost J c := by
        rw [List.take_add_one, hc, Option.toList_some, List.map_append, List.sum_append]
        simp
      have kn := kc.up (show i ≤ J.length by omega)
      conv => whnf
      refine br_i (fun h => ?_) (fun h => ?_)
      · refine ⟨some ⟨.no, .int c⟩, ?_⟩
        rw [ke, cost_char kn h]
        rfl
      · obtain ⟨h1, h2, h3⟩ := szs_get kn h
        have h4 : c - 200 < (i : Int) := by
          rcases kc with ⟨x, hx, rfl⟩ | ⟨j, hj, rfl⟩
          · have := (ch_lt hx).1
            omega
          · omega
        have h5 : ((szs J).take i)[(c - 200).toNat]? = some (cost J c) := by
          rw [List.getElem?_take, if_pos (by omega)]
          exact h3
        conv => whnf
        refine onO_of (atI_of (by omega) (ds_get h5)) ?_
        refine ⟨some ⟨.no, .int c⟩, ?_⟩
        rw [ke]
        rfl
    · rintro a ⟨x5, rfl⟩
      conv => whnf
      refine ⟨smaller (by rw [ds_len, List.length_take, szs_len]; omega), ?_⟩
      refine ⟨some ⟨.no, .int p.1⟩, some ⟨.no, .int p.2⟩, some ⟨.no, .int ((([p.1, p.2] : List Int).take 2).map (cost J)).sum⟩, x5, ?_⟩
      have e : cost J (200 + (i : Int)) = cost J p.1 + (cost J p.2 + 0) := by
        unfold cost
        rw [exC_join hp hJ (by omega), List.length_append, Int.natCast_add, Int.add_zero]
      rw [szs_take hil, ds_app, e]
      rfl
  · rintro a ⟨x2, x3, x4, x5, rfl⟩
    have : (joinsD J).length = J.length := List.length_map ..
    rw [this, List.take_of_length_le (by rw [szs_len]; exact Nat.le_refl _)]
    conv => whnf
    exact hq
theorem pure_Ldrawn_codes : ∀ as Q Qe, sp_Ldrawn_codes as Q Qe → w_Ldrawn_codes (ends0 as Q) (initA 5 as) := by
  rintro as Q Qe ⟨c, J, rfl, hb, h1, hJl, hq⟩
  have hjl : (joinsD J).length = J.length := List.length_map ..
  conv => whnf
  refine ⟨(by first | omega | exact ⟨by omega, by omega⟩ | exact small (by simp only [List.length_cons, List.length_nil, List.length_append, List.length_map, List.length_dropLast, ds_len, DS.rangeD_len]; try omega) | exact smaller (by simp only [List.length_cons, List.length_nil, List.length_append, List.length_map, List.length_dropLast, ds_len, DS.rangeD_len]; omega) | exact cmul_r (by decide) (by decide) | exact cmul_l (by decide) (by decide) | exact ⟨by decide, by decide⟩ | exact cmul_l (by omega) (by omega) | exact cmul_r (by omega) (by omega) | (simp only [List.length_cons, List.length_nil, List.length_append, List.length_map, List.length_dropLast, ds_len]; omega)), ?_⟩
  conv => whnf
  refine callS_i ⟨_, _, rfl, hb, by omega, fun m bx m_0 m_1 hb => ?_⟩
  (try simp only [putBack, hold, resOf, initA, keepNo, wipeA, List.set_cons_zero, List.set_cons_succ, List.getElem?_cons_zero, List.getElem?_cons_succ, List.map_cons, List.map_nil, List.replicate_succ, List.replicate_zero, List.length_cons, List.length_nil, List.cons_append, List.nil_append, Nat.reduceSub, Nat.reduceAdd, Nat.zero_add, List.replicate])
  conv => whnf
  refine ⟨(by first | omega | exact ⟨by omega, by omega⟩ | exact small (by simp only [List.length_cons, List.length_nil, List.length_append, List.length_map, List.length_dropLast, ds_len, DS.rangeD_len]; try omega) | exact smaller (by simp only [List.length_cons, List.length_nil, List.length_append, List.length_map, List.length_dropLast, ds_len, DS.rangeD_len]; omega) | exact cmul_r (by decide) (by decide) | exact cmul_l (by decide) (by decide) | exact ⟨by decide, by decide⟩ | exact cmul_l (by omega) (by omega) | exact cmul_r (by omega) (by omega) | (simp only [List.length_cons, List.length_nil, List.length_append, List.length_map, List.length_dropLast, ds_len]; omega)), ?_⟩
  conv => whnf
  refine for_r (fun i a => ∃ (c : D) (cs : List Int) (x3 x4 : Option AV), a = [some ⟨.lent, c⟩, some ⟨.no, .lst (joinsD J)⟩, some ⟨.own, .lst (Ds cs)⟩, x3, x4] ∧ isBox c ∧ cs.length ≤ i ∧ COk J cs) ⟨_, [], none, none, rfl, hb, Nat.le_refl _, fun c h => by cases h⟩ ?_ ?_
  · rintro i a hi ⟨c, cs, x3, x4, rfl, hb, hl, hc⟩
    have hi : i < m.toNat := hi
    have fin : ∀ (k : Int) (c : D) (x4 : Option AV), Kn J.length k → isBox c → ∃ (c' : D) (cs' : List Int) (x3 x4' : Option AV), [some ⟨.lent, c⟩, some ⟨.no, .lst (joinsD J)⟩, some ⟨.own, .lst (Ds cs ++ [.int k])⟩, some ⟨.no, .int (0 + (i : Int))⟩, x4] = [some ⟨.lent, c'⟩, some ⟨.no, .lst (joinsD J)⟩, some ⟨.own, .lst (Ds cs')⟩, x3, x4'] ∧ isBox c' ∧ cs'.length ≤ i + 1 ∧ COk J cs' := fun k c x4 hk hb =>
      ⟨c, cs ++ [k], _, _, by rw [ds_app]; rfl, hb, by rw [List.length_append, List.length_singleton]; omega, fun y hy => by
        rcases List.mem_append.mp hy with z | z
        · exact hc y z
        · rw [List.mem_singleton.mp z]; exact hk⟩
    (try simp only [putBack, hold, resOf, initA, keepNo, wipeA, List.set_cons_zero, List.set_cons_succ, List.getElem?_cons_zero, List.getElem?_cons_succ, List.map_cons, List.map_nil, List.replicate_succ, List.replicate_zero, List.length_cons, List.length_nil, List.cons_append, List.nil_append, Nat.reduceSub, Nat.reduceAdd, Nat.zero_add, List.replicate])
    conv => whnf
    refine callS_i ⟨_, _, rfl, hb, by omega, fun kd bx kd_0 kd_1 hb => ?_⟩
    (try simp only [putBack, hold, resOf, initA, keepNo, wipeA, List.set_cons_zero, List.set_cons_succ, List.getElem?_cons_zero, List.getElem?_cons_succ, List.map_cons, List.map_nil, List.replicate_succ, List.replicate_zero, List.length_cons, List.length_nil, List.cons_append, List.nil_append, Nat.reduceSub, Nat.reduceAdd, Nat.zero_add, List.replicate])
    conv => whnf
    refine br_i (fun h => ?_) (fun h => ?_)
    · conv => whnf
      refine callS_i ⟨_, rfl, hb, fun x c2 hx hb => ?_⟩
      conv => whnf
      refine ⟨rfl, ?_⟩
      conv => whnf
      refine ⟨smaller (by rw [ds_len]; omega), ?_⟩
      exact fin _ _ _ (.inl ⟨x, ch_of hx, rfl⟩) hb
    · conv => whnf
      refine br_i (fun h2 => ?_) (fun h2 => ?_)
      · conv => whnf
        refine callS_i ⟨_, _, rfl, hb, by omega, fun r bx r0 r1 hb => ?_⟩
        conv => whnf
        refine ⟨smaller (by rw [ds_len]; omega), ?_⟩
        exact fin _ _ _ (.inr ⟨r.toNat, by omega, by omega⟩) hb
      · conv => whnf
        skip
        have hmn : 0 < (if 16 < ((joinsD J).length : Int) then 16 else ((joinsD J).length : Int)) ∧ (if 16 < ((joinsD J).length : Int) then 16 else ((joinsD J).length : Int)) ≤ (J.length : Int) := by split <;> omega
        conv => whnf
        refine callS_i ⟨_, _, rfl, hb, hmn.1, fun r bx r0 r1 hb => ?_⟩
        conv => whnf
        refine ⟨smaller (by rw [ds_len]; omega), ?_⟩
        exact fin _ _ _ (.inr ⟨r.toNat, by omega, by omega⟩) hb
  · rintro a ⟨c, cs, x3, x4, rfl, hb, hl, hc⟩
    conv => whnf
    exact hq cs c (by omega) hc hb

theorem flat_ints (S : List Int) : (Ds S).all flatD = true := by
  unfold Ds
  rw [List.all_map, List.all_eq_true]
  intro x _
  rfl
theorem any_ints (S : List Int) (c : Int) : ((Ds S).any fun d => scEq d (.int c)) = decide (c ∈ S) := by
  induction S with
  | nil => rfl
  | cons x S ih =>
    show (scEq (.int x) (.int c) || (Ds S).any fun d => scEq d (.int c)) = _
    rw [ih]
    have e : scEq (.int x) (.int c) = decide (x = c) := by
      show decide _ = _
      simp
    rw [e]
    by_cases h : x = c
    · subst h
      simp
    · simp [h, Ne.symm h]
theorem pure_Ltold : ∀ as Q Qe, sp_Ltold as Q Qe → w_Ltold (ends0 as Q) (initA 8 as) := by
  rintro as Q Qe ⟨s, J, cs, d, rfl, hJ, hJl, hs, hlen, ht, hq⟩
  rcases hs with rfl | rfl | rfl
  · rcases ht with ⟨c, hu, rfl⟩ | ⟨hc, hs, hl, rfl⟩ | ⟨hc, hs, rfl⟩
    · conv => whnf
      refine callX_i ⟨J, cs, rfl, hJ, hJl, .inl ⟨c, hu, ?_⟩⟩
      conv => whnf
      refine ⟨by simp [eUnk], ?_⟩
      conv => whnf
      intro ea d
      conv => whnf
      refine ⟨rfl, by simp [eUnk, eLarge], ?_⟩
      conv => whnf
      refine ⟨rfl, by simp [eUnk, eLarge], ?_⟩
      conv => whnf
      refine ⟨rfl, by simp [eUnk, eLarge], ?_⟩
      conv => whnf
      refine ⟨rfl, rfl, ?_⟩
      conv => whnf
      refine ⟨(by first | omega | exact ⟨by omega, by omega⟩ | exact small (by simp only [List.length_cons, List.length_nil, List.length_append, List.length_map, List.length_dropLast, ds_len, DS.rangeD_len]; try omega) | exact smaller (by simp only [List.length_cons, List.length_nil, List.length_append, List.length_map, List.length_dropLast, ds_len, DS.rangeD_len]; omega) | exact cmul_r (by decide) (by decide) | exact cmul_l (by decide) (by decide) | exact ⟨by decide, by decide⟩ | exact cmul_l (by omega) (by omega) | exact cmul_r (by omega) (by omega) | (simp only [List.length_cons, List.length_nil, List.length_append, List.length_map, List.length_dropLast, ds_len]; omega)), ?_⟩
      conv => whnf
      exact hq
    · exact absurd rfl hs
    · conv => whnf
      refine callX_i ⟨J, cs, rfl, hJ, hJl, .inr ⟨hc, ?_⟩⟩
      conv => whnf
      refine ⟨(by first | omega | exact ⟨by omega, by omega⟩ | exact small (by simp only [List.length_cons, List.length_nil, List.length_append, List.length_map, List.length_dropLast, ds_len, DS.rangeD_len]; try omega) | exact smaller (by simp only [List.length_cons, List.length_nil, List.length_append, List.length_map, List.length_dropLast, ds_len, DS.rangeD_len]; omega) | exact cmul_r (by decide) (by decide) | exact cmul_l (by decide) (by decide) | exact ⟨by decide, by decide⟩ | exact cmul_l (by omega) (by omega) | exact cmul_r (by omega) (by omega) | (simp only [List.length_cons, List.length_nil, List.length_append, List.length_map, List.length_dropLast, ds_len]; omega)), ?_⟩
      conv => whnf
      exact hq
  · obtain ⟨c0, rfl⟩ : ∃ c0, cs = [c0] := by
      match cs, hlen rfl with
      | [c0], _ => exact ⟨c0, rfl⟩
    rcases ht with ⟨c, hu, rfl⟩ | ⟨hc, hs, hl, rfl⟩ | ⟨hc, hs, rfl⟩
    · conv => whnf
      refine callX_i ⟨J, c0, rfl, hJ, hJl, .inl ⟨c, hu, ?_⟩⟩
      conv => whnf
      refine ⟨by simp [eUnk], ?_⟩
      conv => whnf
      intro ea d
      conv => whnf
      refine ⟨rfl, by simp [eUnk, eLarge], ?_⟩
      conv => whnf
      refine ⟨rfl, by simp [eUnk, eLarge], ?_⟩
      conv => whnf
      refine ⟨rfl, by simp [eUnk, eLarge], ?_⟩
      conv => whnf
      refine ⟨rfl, rfl, ?_⟩
      conv => whnf
      refine ⟨(by first | omega | exact ⟨by omega, by omega⟩ | exact small (by simp only [List.length_cons, List.length_nil, List.length_append, List.length_map, List.length_dropLast, ds_len, DS.rangeD_len]; try omega) | exact smaller (by simp only [List.length_cons, List.length_nil, List.length_append, List.length_map, List.length_dropLast, ds_len, DS.rangeD_len]; omega) | exact cmul_r (by decide) (by decide) | exact cmul_l (by decide) (by decide) | exact ⟨by decide, by decide⟩ | exact cmul_l (by omega) (by omega) | exact cmul_r (by omega) (by omega) | (simp only [List.length_cons, List.length_nil, List.length_append, List.length_map, List.length_dropLast, ds_len]; omega)), ?_⟩
      conv => whnf
      exact hq
    · conv => whnf
      refine callX_i ⟨J, c0, rfl, hJ, hJl, .inr (.inl ⟨hc, hl, ?_⟩)⟩
      conv => whnf
      refine ⟨by simp [eLarge], ?_⟩
      conv => whnf
      intro ea d
      conv => whnf
      refine ⟨rfl, by simp [eUnk, eLarge], ?_⟩
      conv => whnf
      refine ⟨rfl, by simp [eUnk, eLarge], ?_⟩
      conv => whnf
      refine ⟨rfl, by simp [eUnk, eLarge], ?_⟩
      conv => whnf
      refine ⟨(by first | omega | exact ⟨by omega, by omega⟩ | exact small (by simp only [List.length_cons, List.length_nil, List.length_append, List.length_map, List.length_dropLast, ds_len, DS.rangeD_len]; try omega) | exact smaller (by simp only [List.length_cons, List.length_nil, List.length_append, List.length_map, List.length_dropLast, ds_len, DS.rangeD_len]; omega) | exact cmul_r (by decide) (by decide) | exact cmul_l (by decide) (by decide) | exact ⟨by decide, by decide⟩ | exact cmul_l (by omega) (by omega) | exact cmul_r (by omega) (by omega) | (simp only [List.length_cons, List.length_nil, List.length_append, List.length_map, List.length_dropLast, ds_len]; omega)), ?_⟩
      conv => whnf
      exact hq
    · have hl : (txt J [c0]).length ≤ 100000 := by
        rcases hs with z | z
        · exact absurd z (by decide)
        · exact z
      conv => whnf
      refine callX_i ⟨J, c0, rfl, hJ, hJl, .inr (.inr ⟨hc, hl, ?_⟩)⟩
      conv => whnf
      refine ⟨small (by show (txt J [c0]).length ≤ _; omega), ?_⟩
      conv => whnf
      refine ⟨(by first | omega | exact ⟨by omega, by omega⟩ | exact small (by simp only [List.length_cons, List.length_nil, List.length_append, List.length_map, List.length_dropLast, ds_len, DS.rangeD_len]; try omega) | exact smaller (by simp only [List.length_cons, List.length_nil, List.length_append, List.length_map, List.length_dropLast, ds_len, DS.rangeD_len]; omega) | exact cmul_r (by decide) (by decide) | exact cmul_l (by decide) (by decide) | exact ⟨by decide, by decide⟩ | exact cmul_l (by omega) (by omega) | exact cmul_r (by omega) (by omega) | (simp only [List.length_cons, List.length_nil, List.length_append, List.length_map, List.length_dropLast, ds_len]; omega)), ?_⟩
      conv => whnf
      exact hq
  · rcases ht with ⟨c, hu, rfl⟩ | ⟨hc, hs, hl, rfl⟩ | ⟨hc, hs, rfl⟩
    · conv => whnf
      refine callX_i ⟨J, cs, rfl, hJ, hJl, .inl ⟨c, hu, ?_⟩⟩
      conv => whnf
      refine ⟨by simp [eUnk], ?_⟩
      conv => whnf
      intro ea d
      conv => whnf
      refine ⟨rfl, by simp [eUnk, eLarge], ?_⟩
      conv => whnf
      refine ⟨rfl, by simp [eUnk, eLarge], ?_⟩
      conv => whnf
      refine ⟨rfl, by simp [eUnk, eLarge], ?_⟩
      conv => whnf
      refine ⟨rfl, rfl, ?_⟩
      conv => whnf
      refine ⟨(by first | omega | exact ⟨by omega, by omega⟩ | exact small (by simp only [List.length_cons, List.length_nil, List.length_append, List.length_map, List.length_dropLast, ds_len, DS.rangeD_len]; try omega) | exact smaller (by simp only [List.length_cons, List.length_nil, List.length_append, List.length_map, List.length_dropLast, ds_len, DS.rangeD_len]; omega) | exact cmul_r (by decide) (by decide) | exact cmul_l (by decide) (by decide) | exact ⟨by decide, by decide⟩ | exact cmul_l (by omega) (by omega) | exact cmul_r (by omega) (by omega) | (simp only [List.length_cons, List.length_nil, List.length_append, List.length_map, List.length_dropLast, ds_len]; omega)), ?_⟩
      conv => whnf
      exact hq
    · conv => whnf
      refine callX_i ⟨J, cs, rfl, hJ, hJl, .inr (.inl ⟨hc, hl, ?_⟩)⟩
      conv => whnf
      refine ⟨by simp [eLarge], ?_⟩
      conv => whnf
      intro ea d
      conv => whnf
      refine ⟨rfl, by simp [eUnk, eLarge], ?_⟩
      conv => whnf
      refine ⟨rfl, by simp [eUnk, eLarge], ?_⟩
      conv => whnf
      refine ⟨rfl, by simp [eUnk, eLarge], ?_⟩
      conv => whnf
      refine ⟨(by first | omega | exact ⟨by omega, by omega⟩ | exact small (by simp only [List.length_cons, List.length_nil, List.length_append, List.length_map, List.length_dropLast, ds_len, DS.rangeD_len]; try omega) | exact smaller (by simp only [List.length_cons, List.length_nil, List.length_append, List.length_map, List.length_dropLast, ds_len, DS.rangeD_len]; omega) | exact cmul_r (by decide) (by decide) | exact cmul_l (by decide) (by decide) | exact ⟨by decide, by decide⟩ | exact cmul_l (by omega) (by omega) | exact cmul_r (by omega) (by omega) | (simp only [List.length_cons, List.length_nil, List.length_append, List.length_map, List.length_dropLast, ds_len]; omega)), ?_⟩
      conv => whnf
      exact hq
    · have hl : (txt J cs).length ≤ 100000 := by
        rcases hs with z | z
        · exact absurd z (by decide)
        · exact z
      obtain ⟨ws, r, h1, h2, h3⟩ := words_ex (txt J cs)
      have hwm : ∀ w ∈ ws, w.length ≤ 100000 := fun w hw => by
        have h5 := congrArg List.length h1
        rw [List.length_append] at h5
        obtain ⟨p, q, rfl⟩ := List.append_of_mem hw
        rw [List.flatMap_append, List.flatMap_cons, List.length_append, List.length_append, List.length_append] at h5
        omega
      have hrl : (ms r).length ≤ 100000 := by
        have h5 := congrArg List.length h1
        rw [List.length_append] at h5
        show r.length ≤ _
        omega
      have hwl : ws.length ≤ 100000 ∧ (txt J cs).length = (ws.flatMap fun w => w ++ [32]).length + r.length := by
        have h4 : ws.length ≤ (ws.flatMap fun w => w ++ [32]).length := by
          clear h1 h2 hwm
          induction ws with
          | nil => exact Nat.le_refl _
          | cons w ws ih => rw [List.flatMap_cons, List.length_append, List.length_append, List.length_cons, List.length_singleton]; omega
        have h5 := congrArg List.length h1
        rw [List.length_append] at h5
        exact ⟨by omega, h5⟩
      conv => whnf
      refine callX_i ⟨J, cs, rfl, hJ, hJl, .inr (.inr ⟨ws, r, hc, hl, h1, h2, h3, ?_⟩)⟩
      conv => whnf
      refine ⟨rfl, ?_⟩
      (try simp only [putBack, hold, resOf, initA, keepNo, wipeA, List.set_cons_zero, List.set_cons_succ, List.getElem?_cons_zero, List.getElem?_cons_succ, List.map_cons, List.map_nil, List.replicate_succ, List.replicate_zero, List.length_cons, List.length_nil, List.cons_append, List.nil_append, Nat.reduceSub, Nat.reduceAdd, Nat.zero_add, List.replicate])
      conv => whnf
      refine lc_i (fun i acc a => ∃ (x7 : Option AV), a = [some ⟨.no, .str "read"⟩, some ⟨.no, .lst (joinsD J)⟩, some ⟨.no, .lst (Ds cs)⟩, some ⟨.no, .lst (wsD ws)⟩, some ⟨.no, .str (ms r)⟩, none, none, x7] ∧ acc = Ds ((ws.take i).map fun w => (w.length : Int) + 1)) ⟨none, rfl, rfl⟩ ?_ ?_
      · rintro i acc a d hi ⟨x7, rfl, rfl⟩
        rw [List.getElem?_map, Option.map_eq_some_iff] at hi
        obtain ⟨w, hw, rfl⟩ := hi
        have hil := (List.getElem?_eq_some_iff.mp hw).1
        have hwl2 : (ms w).length ≤ 100000 := hwm w (List.mem_of_getElem? hw)
        conv => whnf
        refine ⟨small (by omega), ?_⟩
        conv => whnf
        refine ⟨smaller (by rw [ds_len, List.length_map, List.length_take]; omega), _, rfl, ?_⟩
        rw [List.take_add_one, hw, Option.toList_some, List.map_append, ds_app]
        rfl
      · rintro acc a ⟨x7, rfl, rfl⟩
        rw [List.length_map, List.take_length]
        (try simp only [putBack, hold, resOf, initA, keepNo, wipeA, List.set_cons_zero, List.set_cons_succ, List.getElem?_cons_zero, List.getElem?_cons_succ, List.map_cons, List.map_nil, List.replicate_succ, List.replicate_zero, List.length_cons, List.length_nil, List.cons_append, List.nil_append, Nat.reduceSub, Nat.reduceAdd, Nat.zero_add, List.replicate])
        conv => whnf
        refine ⟨_, (ws.map fun w => (w.length : Int) + 1), .inl rfl, rfl, ?_⟩
        rw [flat_sum]
        rw [hwl.2, Int.natCast_add] at hq
        conv => whnf
        refine ⟨small (by omega), ?_⟩
        conv => whnf
        refine ⟨(by first | omega | exact ⟨by omega, by omega⟩ | exact small (by simp only [List.length_cons, List.length_nil, List.length_append, List.length_map, List.length_dropLast, ds_len, DS.rangeD_len]; try omega) | exact smaller (by simp only [List.length_cons, List.length_nil, List.length_append, List.length_map, List.length_dropLast, ds_len, DS.rangeD_len]; omega) | exact cmul_r (by decide) (by decide) | exact cmul_l (by decide) (by decide) | exact ⟨by decide, by decide⟩ | exact cmul_l (by omega) (by omega) | exact cmul_r (by omega) (by omega) | (simp only [List.length_cons, List.length_nil, List.length_append, List.length_map, List.length_dropLast, ds_len]; omega)), ?_⟩
        conv => whnf
        exact hq

theorem tells_ex {J : Jn} {cs : List Int} (s : Str) (h : ∀ c ∈ cs, Kn J.length c ∨ (¬ Kn J.length c ∧ c.natAbs.log2 < 1920)) : ∃ d, tells J s cs d := by
  have split : COk J cs ∨ ∃ c, Unk J cs c := by
    clear s
    induction cs with
    | nil => exact .inl fun c h => by cases h
    | cons x cs ih =>
      rcases h x (List.mem_cons_self ..) with k | ⟨k, l⟩
      · rcases ih fun c hc => h c (List.mem_cons_of_mem _ hc) with z | ⟨c, pre, post, e, h1, h2, h3⟩
        · exact .inl fun c hc => by
            rcases List.mem_cons.mp hc with w | w
            · rw [w]; exact k
            · exact z c w
        · exact .inr ⟨c, x :: pre, post, by rw [e]; rfl, fun y hy => by
            rcases List.mem_cons.mp hy with w | w
            · rw [w]; exact k
            · exact h1 y w, h2, h3⟩
      · exact .inr ⟨x, [], cs, rfl, fun y hy => (by cases hy), k, l⟩
  rcases split with z | ⟨c, z⟩
  · by_cases e : s ≠ "length" ∧ 100000 < (txt J cs).length
    · exact ⟨_, .inr (.inl ⟨z, e.1, e.2, rfl⟩)⟩
    · refine ⟨_, .inr (.inr ⟨z, ?_, rfl⟩)⟩
      by_cases e2 : s = "length"
      · exact .inl e2
      · exact .inr (by
          rcases Nat.lt_or_ge 100000 (txt J cs).length with w | w
          · exact absurd ⟨e2, w⟩ e
          · exact w)
  · exact ⟨_, .inl ⟨c, z, rfl⟩⟩
theorem tells_pl {J : Jn} {s : Str} {cs : List Int} {d : D} (h : tells J s cs d) : Pl 4 d := by
  have two : ∀ a b : D, (∀ n, Pl n a) → (∀ n, Pl n b) → Pl 4 (.tup [a, b]) := fun a b ha hb => ⟨by simp, fun x hx => by
    simp only [List.mem_cons, List.not_mem_nil, or_false] at hx
    rcases hx with rfl | rfl
    · exact ha _
    · exact hb _⟩
  rcases h with ⟨c, _, rfl⟩ | ⟨_, _, _, rfl⟩ | ⟨_, _, rfl⟩
  · exact two _ _ (fun n => pl_str n _) fun n => pl_int n _
  · refine ⟨by simp, fun x hx => ?_⟩
    obtain rfl := List.mem_singleton.mp hx
    exact pl_str _ _
  · exact two _ _ (fun n => pl_str n _) fun n => pl_int n _
def Str41 (J : Jn) (S : List Int) : Prop := S.length = 10 ∧ ∀ c ∈ S, ¬ Kn J.length c ∧ c.natAbs.log2 < 1920
theorem unk_iff {J : Jn} {S cs : List Int} (hS : Str41 J S) (hcs : ∀ c ∈ cs, Kn J.length c ∨ c ∈ S) {c : Int} (h : c ∈ cs) : decide (c ∈ S) = !kn J.length c := by
  cases e : kn J.length c with
  | true => exact decide_eq_false fun z => (hS.2 c z).1 (kn_iff.mp e)
  | false =>
    refine decide_eq_true ?_
    rcases hcs c h with z | z
    · rw [kn_iff.mpr z] at e
      cases e
    · exact z
theorem k41_rest {J : Jn} {cs S : List Int} {c : D} {ns : List Int} {Q : AV → List AV → Prop} {x6 : Option AV} (hJ : JOk J) (h31 : J.length ≤ 31) (hS : Str41 J S) (hcs : ∀ c ∈ cs, Kn J.length c ∨ c ∈ S) (hcl : cs.length ≤ 40)
    (hq : ∀ b, Q ⟨.no, .bl true⟩ b) : w_law_s_6 (ends0 [⟨.no, .rol (Ds ns)⟩] Q) [some ⟨.no, .rol (Ds ns)⟩, some ⟨.own, c⟩, some ⟨.no, .lst (joinsD J)⟩, some ⟨.no, .lst (Ds (szs J))⟩, some ⟨.own, .lst (Ds cs)⟩, some ⟨.own, .lst (Ds S)⟩, x6, none, none, none, none, none] := by
  have hjl : (joinsD J).length = J.length := List.length_map ..
  have hk : ∀ c ∈ cs, Kn J.length c ∨ (¬ Kn J.length c ∧ c.natAbs.log2 < 1920) := fun c hc => by
    rcases hcs c hc with z | z
    · exact .inl z
    · exact .inr (hS.2 c z)
  conv => whnf
  refine lc_i (fun i acc a => ∃ (x10 : Option AV), a = [some ⟨.no, .rol (Ds ns)⟩, some ⟨.own, c⟩, some ⟨.no, .lst (joinsD J)⟩, some ⟨.no, .lst (Ds (szs J))⟩, some ⟨.no, .lst (Ds cs)⟩, some ⟨.own, .lst (Ds S)⟩, x6, none, none, none, x10, none] ∧ acc = Ds ((cs.take i).filter (fun c => !kn J.length c))) ⟨none, rfl, rfl⟩ ?_ ?_
  · rintro i acc a d hi ⟨x10, rfl, rfl⟩
    obtain ⟨c, hci, rfl⟩ := ds_of hi
    have hil := (List.getElem?_eq_some_iff.mp hci).1
    have hm := List.mem_of_getElem? hci
    conv => whnf
    refine ⟨_, rfl, rfl, flat_ints S, ?_⟩
    rw [any_ints, unk_iff hS hcs hm]
    have hl : ((cs.take i).filter (fun c => !kn J.length c)).length < 16000000 := by
      have := List.length_filter_le (fun c => !kn J.length c) (cs.take i)
      rw [List.length_take] at this
      omega
    cases e : kn J.length c with
    | true =>
      conv => whnf
      refine ⟨_, rfl, ?_⟩
      rw [List.take_add_one, hci, Option.toList_some, List.filter_append, List.filter_cons, e]
      simp
    | false =>
      conv => whnf
      refine ⟨smaller (by rw [ds_len]; exact hl), _, rfl, ?_⟩
      rw [List.take_add_one, hci, Option.toList_some, List.filter_append, List.filter_cons, e, ds_app]
      rfl
  · rintro acc a ⟨x10, rfl, rfl⟩
    rw [ds_len, List.take_length]
    (try simp only [putBack, hold, resOf, initA, keepNo, wipeA, List.set_cons_zero, List.set_cons_succ, List.getElem?_cons_zero, List.getElem?_cons_succ, List.map_cons, List.map_nil, List.replicate_succ, List.replicate_zero, List.length_cons, List.length_nil, List.cons_append, List.nil_append, Nat.reduceSub, Nat.reduceAdd, Nat.zero_add, List.replicate])
    conv => whnf
    refine ⟨(by first | omega | exact ⟨by omega, by omega⟩ | exact small (by simp only [List.length_cons, List.length_nil, List.length_append, List.length_map, List.length_dropLast, ds_len, DS.rangeD_len]; try omega) | exact smaller (by simp only [List.length_cons, List.length_nil, List.length_append, List.length_map, List.length_dropLast, ds_len, DS.rangeD_len]; omega) | exact cmul_r (by decide) (by decide) | exact cmul_l (by decide) (by decide) | exact ⟨by decide, by decide⟩ | exact cmul_l (by omega) (by omega) | exact cmul_r (by omega) (by omega) | (simp only [List.length_cons, List.length_nil, List.length_append, List.length_map, List.length_dropLast, ds_len]; omega)), ?_⟩
    conv => whnf
    refine ⟨(by first | omega | exact ⟨by omega, by omega⟩ | exact small (by simp only [List.length_cons, List.length_nil, List.length_append, List.length_map, List.length_dropLast, ds_len, DS.rangeD_len]; try omega) | exact smaller (by simp only [List.length_cons, List.length_nil, List.length_append, List.length_map, List.length_dropLast, ds_len, DS.rangeD_len]; omega) | exact cmul_r (by decide) (by decide) | exact cmul_l (by decide) (by decide) | exact ⟨by decide, by decide⟩ | exact cmul_l (by omega) (by omega) | exact cmul_r (by omega) (by omega) | (simp only [List.length_cons, List.length_nil, List.length_append, List.length_map, List.length_dropLast, ds_len]; omega)), ?_⟩
    (try simp only [putBack, hold, resOf, initA, keepNo, wipeA, List.set_cons_zero, List.set_cons_succ, List.getElem?_cons_zero, List.getElem?_cons_succ, List.map_cons, List.map_nil, List.replicate_succ, List.replicate_zero, List.length_cons, List.length_nil, List.cons_append, List.nil_append, Nat.reduceSub, Nat.reduceAdd, Nat.zero_add, List.replicate])
    conv => whnf
    refine for_i (fun i a => ∃ (x9 : Option AV), a = [some ⟨.no, .rol (Ds ns)⟩, some ⟨.own, c⟩, some ⟨.no, .lst (joinsD J)⟩, some ⟨.no, .lst (Ds (szs J))⟩, some ⟨.no, .lst (Ds cs)⟩, some ⟨.own, .lst (Ds S)⟩, x6, some ⟨.no, .lst (Ds (cs.filter (fun c => !kn J.length c)))⟩, some ⟨.own, .lst [.lst (joinsD J), .lst (Ds cs)]⟩, x9, none, none]) ⟨none, rfl⟩ ?_ ?_
    · rintro i a d hi ⟨x9, rfl⟩
      have hd : ∃ s : Str, d = .str s ∧ (s = "length" ∨ s = "read") := by
        have := List.mem_of_getElem? hi
        simp only [List.mem_cons, List.not_mem_nil, or_false] at this
        rcases this with rfl | rfl
        · exact ⟨_, rfl, .inl rfl⟩
        · exact ⟨_, rfl, .inr rfl⟩
      obtain ⟨s, rfl, hs⟩ := hd
      obtain ⟨d, hd⟩ := tells_ex s hk
      have hst : s ≠ "text" := by
        rcases hs with rfl | rfl <;> decide
      have hsk : asks s := by
        rcases hs with z | z
        · exact .inl z
        · exact .inr (.inr z)
      conv => whnf
      refine callS_i ⟨s, J, cs, d, rfl, hJ, by omega, hsk, fun z => absurd z hst, hd, ?_⟩
      (try simp only [putBack, hold, resOf, initA, keepNo, wipeA, List.set_cons_zero, List.set_cons_succ, List.getElem?_cons_zero, List.getElem?_cons_succ, List.map_cons, List.map_nil, List.replicate_succ, List.replicate_zero, List.length_cons, List.length_nil, List.cons_append, List.nil_append, Nat.reduceSub, Nat.reduceAdd, Nat.zero_add, List.replicate])
      conv => whnf
      refine callS_i ⟨s, J, cs, _, d, rfl, hd, rfl, ?_⟩
      (try simp only [putBack, hold, resOf, initA, keepNo, wipeA, List.set_cons_zero, List.set_cons_succ, List.getElem?_cons_zero, List.getElem?_cons_succ, List.map_cons, List.map_nil, List.replicate_succ, List.replicate_zero, List.length_cons, List.length_nil, List.cons_append, List.nil_append, Nat.reduceSub, Nat.reduceAdd, Nat.zero_add, List.replicate])
      conv => whnf
      refine callS_i ⟨_, _, d, rfl, tells_pl hd, ?_⟩
      (try simp only [putBack, hold, resOf, initA, keepNo, wipeA, List.set_cons_zero, List.set_cons_succ, List.getElem?_cons_zero, List.getElem?_cons_succ, List.map_cons, List.map_nil, List.replicate_succ, List.replicate_zero, List.length_cons, List.length_nil, List.cons_append, List.nil_append, Nat.reduceSub, Nat.reduceAdd, Nat.zero_add, List.replicate])
      conv => whnf
      exact ⟨_, rfl⟩
    · rintro a ⟨x9, rfl⟩
      (try simp only [putBack, hold, resOf, initA, keepNo, wipeA, List.set_cons_zero, List.set_cons_succ, List.getElem?_cons_zero, List.getElem?_cons_succ, List.map_cons, List.map_nil, List.replicate_succ, List.replicate_zero, List.length_cons, List.length_nil, List.cons_append, List.nil_append, Nat.reduceSub, Nat.reduceAdd, Nat.zero_add, List.replicate])
      conv => whnf
      refine for_i (fun i a => ∃ (x10 x11 : Option AV), a = [some ⟨.no, .rol (Ds ns)⟩, some ⟨.own, c⟩, some ⟨.no, .lst (joinsD J)⟩, some ⟨.no, .lst (Ds (szs J))⟩, some ⟨.no, .lst (Ds cs)⟩, some ⟨.own, .lst (Ds S)⟩, x6, some ⟨.no, .lst (Ds (cs.filter (fun c => !kn J.length c)))⟩, some ⟨.own, .lst [.lst (joinsD J), .lst (Ds cs)]⟩, x9, x10, x11]) ⟨none, none, rfl⟩ ?_ ?_
      · rintro i a d hi ⟨x10, x11, rfl⟩
        have hm := List.mem_of_getElem? hi
        have hm : d ∈ Ds cs := by
          first
            | exact List.mem_of_mem_take hm
            | exact List.mem_of_mem_drop (List.mem_of_mem_take hm)
            | exact List.mem_of_mem_take (List.mem_of_mem_drop hm)
        obtain ⟨y, hy, rfl⟩ := List.mem_map.mp hm
        have hk1 : ∀ c ∈ [y], Kn J.length c ∨ (¬ Kn J.length c ∧ c.natAbs.log2 < 1920) := fun c hc => by
          rw [List.mem_singleton.mp hc]
          exact hk y hy
        obtain ⟨d, hd⟩ := tells_ex "text" hk1
        have fin : ∀ us, us = [y].filter (fun c => !kn J.length c) → ∀ E : EndsA, (∀ x, E.nx [some ⟨.no, .rol (Ds ns)⟩, some ⟨.own, c⟩, some ⟨.no, .lst (joinsD J)⟩, some ⟨.no, .lst (Ds (szs J))⟩, some ⟨.no, .lst (Ds cs)⟩, some ⟨.own, .lst (Ds S)⟩, x6, some ⟨.no, .lst (Ds (cs.filter (fun c => !kn J.length c)))⟩, some ⟨.own, .lst [.lst (joinsD J), .lst (Ds cs)]⟩, x9, some ⟨.no, .int y⟩, x]) →
            w_law_l3_2 E [some ⟨.no, .rol (Ds ns)⟩, some ⟨.own, c⟩, some ⟨.no, .lst (joinsD J)⟩, some ⟨.no, .lst (Ds (szs J))⟩, some ⟨.no, .lst (Ds cs)⟩, some ⟨.own, .lst (Ds S)⟩, x6, some ⟨.no, .lst (Ds (cs.filter (fun c => !kn J.length c)))⟩, some ⟨.own, .lst [.lst (joinsD J), .lst (Ds cs)]⟩, x9, some ⟨.no, .int y⟩, some ⟨.own, .lst (Ds us)⟩] := by
          intro us hus E hE
          conv => whnf
          refine ⟨(by first | omega | exact ⟨by omega, by omega⟩ | exact small (by simp only [List.length_cons, List.length_nil, List.length_append, List.length_map, List.length_dropLast, ds_len, DS.rangeD_len]; try omega) | exact smaller (by simp only [List.length_cons, List.length_nil, List.length_append, List.length_map, List.length_dropLast, ds_len, DS.rangeD_len]; omega) | exact cmul_r (by decide) (by decide) | exact cmul_l (by decide) (by decide) | exact ⟨by decide, by decide⟩ | exact cmul_l (by omega) (by omega) | exact cmul_r (by omega) (by omega) | (simp only [List.length_cons, List.length_nil, List.length_append, List.length_map, List.length_dropLast, ds_len]; omega)), ?_⟩
          conv => whnf
          refine callS_i ⟨"text", J, [y], d, rfl, hJ, by omega, .inr (.inl rfl), fun _ => rfl, hd, ?_⟩
          (try simp only [putBack, hold, resOf, initA, keepNo, wipeA, List.set_cons_zero, List.set_cons_succ, List.getElem?_cons_zero, List.getElem?_cons_succ, List.map_cons, List.map_nil, List.replicate_succ, List.replicate_zero, List.length_cons, List.length_nil, List.cons_append, List.nil_append, Nat.reduceSub, Nat.reduceAdd, Nat.zero_add, List.replicate])
          conv => whnf
          refine ⟨(by first | omega | exact ⟨by omega, by omega⟩ | exact small (by simp only [List.length_cons, List.length_nil, List.length_append, List.length_map, List.length_dropLast, ds_len, DS.rangeD_len]; try omega) | exact smaller (by simp only [List.length_cons, List.length_nil, List.length_append, List.length_map, List.length_dropLast, ds_len, DS.rangeD_len]; omega) | exact cmul_r (by decide) (by decide) | exact cmul_l (by decide) (by decide) | exact ⟨by decide, by decide⟩ | exact cmul_l (by omega) (by omega) | exact cmul_r (by omega) (by omega) | (simp only [List.length_cons, List.length_nil, List.length_append, List.length_map, List.length_dropLast, ds_len]; omega)), ?_⟩
          conv => whnf
          refine callS_i ⟨"text", J, [y], us, d, rfl, hd, hus, ?_⟩
          (try simp only [putBack, hold, resOf, initA, keepNo, wipeA, List.set_cons_zero, List.set_cons_succ, List.getElem?_cons_zero, List.getElem?_cons_succ, List.map_cons, List.map_nil, List.replicate_succ, List.replicate_zero, List.length_cons, List.length_nil, List.cons_append, List.nil_append, Nat.reduceSub, Nat.reduceAdd, Nat.zero_add, List.replicate])
          conv => whnf
          refine callS_i ⟨_, _, d, rfl, tells_pl hd, ?_⟩
          (try simp only [putBack, hold, resOf, initA, keepNo, wipeA, List.set_cons_zero, List.set_cons_succ, List.getElem?_cons_zero, List.getElem?_cons_succ, List.map_cons, List.map_nil, List.replicate_succ, List.replicate_zero, List.length_cons, List.length_nil, List.cons_append, List.nil_append, Nat.reduceSub, Nat.reduceAdd, Nat.zero_add, List.replicate])
          conv => whnf
          exact hE _
        conv => whnf
        refine ⟨(by first | omega | exact ⟨by omega, by omega⟩ | exact small (by simp only [List.length_cons, List.length_nil, List.length_append, List.length_map, List.length_dropLast, ds_len, DS.rangeD_len]; try omega) | exact smaller (by simp only [List.length_cons, List.length_nil, List.length_append, List.length_map, List.length_dropLast, ds_len, DS.rangeD_len]; omega) | exact cmul_r (by decide) (by decide) | exact cmul_l (by decide) (by decide) | exact ⟨by decide, by decide⟩ | exact cmul_l (by omega) (by omega) | exact cmul_r (by omega) (by omega) | (simp only [List.length_cons, List.length_nil, List.length_append, List.length_map, List.length_dropLast, ds_len]; omega)), ?_⟩
        conv => whnf
        refine ⟨_, rfl, rfl, flat_ints S, ?_⟩
        rw [any_ints, unk_iff hS hcs hy]
        refine br_b (fun h => ?_) (fun h => ?_)
        · have e : kn J.length y = false := by simpa using h
          conv => whnf
          refine ⟨(by first | omega | exact ⟨by omega, by omega⟩ | exact small (by simp only [List.length_cons, List.length_nil, List.length_append, List.length_map, List.length_dropLast, ds_len, DS.rangeD_len]; try omega) | exact smaller (by simp only [List.length_cons, List.length_nil, List.length_append, List.length_map, List.length_dropLast, ds_len, DS.rangeD_len]; omega) | exact cmul_r (by decide) (by decide) | exact cmul_l (by decide) (by decide) | exact ⟨by decide, by decide⟩ | exact cmul_l (by omega) (by omega) | exact cmul_r (by omega) (by omega) | (simp only [List.length_cons, List.length_nil, List.length_append, List.length_map, List.length_dropLast, ds_len]; omega)), ?_⟩
          (try simp only [putBack, hold, resOf, initA, keepNo, wipeA, List.set_cons_zero, List.set_cons_succ, List.getElem?_cons_zero, List.getElem?_cons_succ, List.map_cons, List.map_nil, List.replicate_succ, List.replicate_zero, List.length_cons, List.length_nil, List.cons_append, List.nil_append, Nat.reduceSub, Nat.reduceAdd, Nat.zero_add, List.replicate])
          refine fin [y] (by rw [List.filter_cons, e]; rfl) _ ?_
          intro x
          exact ⟨_, _, rfl⟩
        · have e : kn J.length y = true := by simpa using h
          refine wNext_i ?_
          (try simp only [putBack, hold, resOf, initA, keepNo, wipeA, List.set_cons_zero, List.set_cons_succ, List.getElem?_cons_zero, List.getElem?_cons_succ, List.map_cons, List.map_nil, List.replicate_succ, List.replicate_zero, List.length_cons, List.length_nil, List.cons_append, List.nil_append, Nat.reduceSub, Nat.reduceAdd, Nat.zero_add, List.replicate])
          refine fin [] (by rw [List.filter_cons, e]; rfl) _ ?_
          intro x
          exact ⟨_, _, rfl⟩
      · rintro a ⟨x10, x11, rfl⟩
        conv => whnf
        refine callS_i ⟨_, _, .lst (joinsD J), rfl, pl_joins (by omega), ?_⟩
        (try simp only [putBack, hold, resOf, initA, keepNo, wipeA, List.set_cons_zero, List.set_cons_succ, List.getElem?_cons_zero, List.getElem?_cons_succ, List.map_cons, List.map_nil, List.replicate_succ, List.replicate_zero, List.length_cons, List.length_nil, List.cons_append, List.nil_append, Nat.reduceSub, Nat.reduceAdd, Nat.zero_add, List.replicate])
        conv => whnf
        refine callS_i ⟨_, _, .lst (Ds cs), rfl, pl_ints _ _ (by omega), ?_⟩
        (try simp only [putBack, hold, resOf, initA, keepNo, wipeA, List.set_cons_zero, List.set_cons_succ, List.getElem?_cons_zero, List.getElem?_cons_succ, List.map_cons, List.map_nil, List.replicate_succ, List.replicate_zero, List.length_cons, List.length_nil, List.cons_append, List.nil_append, Nat.reduceSub, Nat.reduceAdd, Nat.zero_add, List.replicate])
        conv => whnf
        exact hq _
theorem k41_mid {J : Jn} {cs S : List Int} {c : D} {ns : List Int} {Q : AV → List AV → Prop} (hJ : JOk J) (h31 : J.length ≤ 31) (hS : Str41 J S) (hc : COk J cs) (hcl : cs.length ≤ 30) (hb : isBox c)
    (hq : ∀ b, Q ⟨.no, .bl true⟩ b) : w_law_s_5 (ends0 [⟨.no, .rol (Ds ns)⟩] Q) [some ⟨.no, .rol (Ds ns)⟩, some ⟨.own, c⟩, some ⟨.no, .lst (joinsD J)⟩, some ⟨.no, .lst (Ds (szs J))⟩, some ⟨.own, .lst (Ds cs)⟩, some ⟨.own, .lst (Ds S)⟩, none, none, none, none, none, none] := by
  conv => whnf
  refine callS_i ⟨_, _, rfl, hb, by omega, fun r bx r_0 r_1 hb => ?_⟩
  (try simp only [putBack, hold, resOf, initA, keepNo, wipeA, List.set_cons_zero, List.set_cons_succ, List.getElem?_cons_zero, List.getElem?_cons_succ, List.map_cons, List.map_nil, List.replicate_succ, List.replicate_zero, List.length_cons, List.length_nil, List.cons_append, List.nil_append, Nat.reduceSub, Nat.reduceAdd, Nat.zero_add, List.replicate])
  conv => whnf
  refine br_i (fun h => ?_) (fun h => ?_)
  · conv => whnf
    refine callS_i ⟨_, _, rfl, hb, by omega, fun m bx m_0 m_1 hb => ?_⟩
    (try simp only [putBack, hold, resOf, initA, keepNo, wipeA, List.set_cons_zero, List.set_cons_succ, List.getElem?_cons_zero, List.getElem?_cons_succ, List.map_cons, List.map_nil, List.replicate_succ, List.replicate_zero, List.length_cons, List.length_nil, List.cons_append, List.nil_append, Nat.reduceSub, Nat.reduceAdd, Nat.zero_add, List.replicate])
    conv => whnf
    refine ⟨(by first | omega | exact ⟨by omega, by omega⟩ | exact small (by simp only [List.length_cons, List.length_nil, List.length_append, List.length_map, List.length_dropLast, ds_len, DS.rangeD_len]; try omega) | exact smaller (by simp only [List.length_cons, List.length_nil, List.length_append, List.length_map, List.length_dropLast, ds_len, DS.rangeD_len]; omega) | exact cmul_r (by decide) (by decide) | exact cmul_l (by decide) (by decide) | exact ⟨by decide, by decide⟩ | exact cmul_l (by omega) (by omega) | exact cmul_r (by omega) (by omega) | (simp only [List.length_cons, List.length_nil, List.length_append, List.length_map, List.length_dropLast, ds_len]; omega)), ?_⟩
    conv => whnf
    refine for_r (fun i a => ∃ (c : D) (cs : List Int) (x6 : Option AV), a = [some ⟨.no, .rol (Ds ns)⟩, some ⟨.own, c⟩, some ⟨.no, .lst (joinsD J)⟩, some ⟨.no, .lst (Ds (szs J))⟩, some ⟨.own, .lst (Ds cs)⟩, some ⟨.own, .lst (Ds S)⟩, x6, none, none, none, none, none] ∧ isBox c ∧ cs.length ≤ 30 + i ∧ ∀ c ∈ cs, Kn J.length c ∨ c ∈ S) ⟨_, cs, none, rfl, hb, hcl, fun c h => .inl (hc c h)⟩ ?_ ?_
    · rintro i a hi ⟨c, cs, x6, rfl, hb, hl, hk⟩
      have hi : i < (1 + m).toNat := hi
      (try simp only [putBack, hold, resOf, initA, keepNo, wipeA, List.set_cons_zero, List.set_cons_succ, List.getElem?_cons_zero, List.getElem?_cons_succ, List.map_cons, List.map_nil, List.replicate_succ, List.replicate_zero, List.length_cons, List.length_nil, List.cons_append, List.nil_append, Nat.reduceSub, Nat.reduceAdd, Nat.zero_add, List.replicate])
      conv => whnf
      refine callS_i ⟨_, _, rfl, hb, by omega, fun p bx p0 p1 hb => ?_⟩
      (try simp only [putBack, hold, resOf, initA, keepNo, wipeA, List.set_cons_zero, List.set_cons_succ, List.getElem?_cons_zero, List.getElem?_cons_succ, List.map_cons, List.map_nil, List.replicate_succ, List.replicate_zero, List.length_cons, List.length_nil, List.cons_append, List.nil_append, Nat.reduceSub, Nat.reduceAdd, Nat.zero_add, List.replicate])
      conv => whnf
      refine callS_i ⟨_, _, rfl, hb, by omega, fun q bx q0 q1 hb => ?_⟩
      (try simp only [putBack, hold, resOf, initA, keepNo, wipeA, List.set_cons_zero, List.set_cons_succ, List.getElem?_cons_zero, List.getElem?_cons_succ, List.map_cons, List.map_nil, List.replicate_succ, List.replicate_zero, List.length_cons, List.length_nil, List.cons_append, List.nil_append, Nat.reduceSub, Nat.reduceAdd, Nat.zero_add, List.replicate])
      conv => whnf
      refine at_int (by omega) (by rw [hS.1]; omega) ?_
      conv => whnf
      refine ⟨⟨smaller (by rw [ds_len]; omega), by omega, by rw [ds_len] at p1; omega⟩, ?_⟩
      refine ⟨_, cs.take p.toNat ++ [S.getD q.toNat 0] ++ cs.drop p.toNat, some ⟨.no, .int (0 + (i : Int))⟩, ?_, hb, ?_, fun y hy => ?_⟩
      · rw [ds_app, ds_app]
        unfold Ds
        rw [List.map_take, List.map_drop]
        rfl
      · rw [List.length_append, List.length_append, List.length_take, List.length_drop, List.length_singleton]
        omega
      · rcases List.mem_append.mp hy with z | z
        · rcases List.mem_append.mp z with z | z
          · exact hk y (List.mem_of_mem_take z)
          · rw [List.mem_singleton.mp z]
            have hq : q.toNat < S.length := by rw [hS.1]; omega
            rw [List.getD_eq_getElem?_getD, List.getElem?_eq_getElem hq]
            exact .inr (List.getElem_mem hq)
        · exact hk y (List.mem_of_mem_drop z)
    · rintro a ⟨c, cs, x6, rfl, hb, hl, hk⟩
      exact k41_rest hJ h31 hS hk (by omega) hq
  · exact wNext_i (k41_rest hJ h31 hS (fun c h => .inl (hc c h)) (by omega) hq)
theorem pure_law : ∀ as Q Qe, sp_law as Q Qe → w_law (ends0 as Q) (initA 12 as) := by
  rintro as Q Qe ⟨ns, rfl, hl, hq⟩
  conv => whnf
  refine callS_i ⟨_, _, _, rfl, by omega, by omega, by omega, by omega, fun ds hds => ?_⟩
  (try simp only [putBack, hold, resOf, initA, keepNo, wipeA, List.set_cons_zero, List.set_cons_succ, List.getElem?_cons_zero, List.getElem?_cons_succ, List.map_cons, List.map_nil, List.replicate_succ, List.replicate_zero, List.length_cons, List.length_nil, List.cons_append, List.nil_append, Nat.reduceSub, Nat.reduceAdd, Nat.zero_add, List.replicate])
  conv => whnf
  refine ⟨(by first | omega | exact ⟨by omega, by omega⟩ | exact small (by simp only [List.length_cons, List.length_nil, List.length_append, List.length_map, List.length_dropLast, ds_len, DS.rangeD_len]; try omega) | exact smaller (by simp only [List.length_cons, List.length_nil, List.length_append, List.length_map, List.length_dropLast, ds_len, DS.rangeD_len]; omega) | exact cmul_r (by decide) (by decide) | exact cmul_l (by decide) (by decide) | exact ⟨by decide, by decide⟩ | exact cmul_l (by omega) (by omega) | exact cmul_r (by omega) (by omega) | (simp only [List.length_cons, List.length_nil, List.length_append, List.length_map, List.length_dropLast, ds_len]; omega)), ?_⟩
  conv => whnf
  refine callS_i ⟨_, rfl, ⟨ds, 0, rfl⟩, fun J c h1 h31 hJ hb => ?_⟩
  (try simp only [putBack, hold, resOf, initA, keepNo, wipeA, List.set_cons_zero, List.set_cons_succ, List.getElem?_cons_zero, List.getElem?_cons_succ, List.map_cons, List.map_nil, List.replicate_succ, List.replicate_zero, List.length_cons, List.length_nil, List.cons_append, List.nil_append, Nat.reduceSub, Nat.reduceAdd, Nat.zero_add, List.replicate])
  have hjl : (joinsD J).length = J.length := List.length_map ..
  conv => whnf
  refine callS_i ⟨J, rfl, hJ, by omega, ?_⟩
  (try simp only [putBack, hold, resOf, initA, keepNo, wipeA, List.set_cons_zero, List.set_cons_succ, List.getElem?_cons_zero, List.getElem?_cons_succ, List.map_cons, List.map_nil, List.replicate_succ, List.replicate_zero, List.length_cons, List.length_nil, List.cons_append, List.nil_append, Nat.reduceSub, Nat.reduceAdd, Nat.zero_add, List.replicate])
  conv => whnf
  refine callS_i ⟨_, J, rfl, hb, h1, by omega, fun cs c hcl hc hb => ?_⟩
  (try simp only [putBack, hold, resOf, initA, keepNo, wipeA, List.set_cons_zero, List.set_cons_succ, List.getElem?_cons_zero, List.getElem?_cons_succ, List.map_cons, List.map_nil, List.replicate_succ, List.replicate_zero, List.length_cons, List.length_nil, List.cons_append, List.nil_append, Nat.reduceSub, Nat.reduceAdd, Nat.zero_add, List.replicate])
  conv => whnf
  refine callS_i ⟨_, _, rfl, hb, by omega, fun st bx st_0 st_1 hb => ?_⟩
  (try simp only [putBack, hold, resOf, initA, keepNo, wipeA, List.set_cons_zero, List.set_cons_succ, List.getElem?_cons_zero, List.getElem?_cons_succ, List.map_cons, List.map_nil, List.replicate_succ, List.replicate_zero, List.length_cons, List.length_nil, List.cons_append, List.nil_append, Nat.reduceSub, Nat.reduceAdd, Nat.zero_add, List.replicate])
  conv => whnf
  refine ⟨(by first | omega | exact ⟨by omega, by omega⟩ | exact small (by simp only [List.length_cons, List.length_nil, List.length_append, List.length_map, List.length_dropLast, ds_len, DS.rangeD_len]; try omega) | exact smaller (by simp only [List.length_cons, List.length_nil, List.length_append, List.length_map, List.length_dropLast, ds_len, DS.rangeD_len]; omega) | exact cmul_r (by decide) (by decide) | exact cmul_l (by decide) (by decide) | exact ⟨by decide, by decide⟩ | exact cmul_l (by omega) (by omega) | exact cmul_r (by omega) (by omega) | (simp only [List.length_cons, List.length_nil, List.length_append, List.length_map, List.length_dropLast, ds_len]; omega)), ?_⟩
  (try simp only [putBack, hold, resOf, initA, keepNo, wipeA, List.set_cons_zero, List.set_cons_succ, List.getElem?_cons_zero, List.getElem?_cons_succ, List.map_cons, List.map_nil, List.replicate_succ, List.replicate_zero, List.length_cons, List.length_nil, List.cons_append, List.nil_append, Nat.reduceSub, Nat.reduceAdd, Nat.zero_add, List.replicate])
  have hS : Str41 J [0, 1, 11, 13, 33, 39, 129, 199, 200 + ((joinsD J).length : Int), 201 + ((joinsD J).length : Int) + st] := by
    refine ⟨rfl, fun c hc => ?_⟩
    have tb : ∀ x ∈ CH, 2 + x ≠ 11 ∧ 2 + x ≠ 13 ∧ 2 + x ≠ 33 ∧ 2 + x ≠ 39 ∧ 2 + x ≠ 129 ∧ 2 + x ≠ 199 := by decide
    simp only [List.mem_cons, List.not_mem_nil, or_false] at hc
    refine ⟨fun k => ?_, log2_small (by omega)⟩
    rcases k with ⟨x, hx, e⟩ | ⟨j, hj, e⟩
    · have b1 := ch_lt hx
      have b2 := tb x hx
      omega
    · omega
  exact k41_mid hJ h31 hS hc (by omega) hb hq

section
variable {P : Program} {w : World} {K : PySem.W.Frag} {mg : Str → Option Value} {base : Heap}
theorem ex_UnknownCode (h : ∃ C, ExI K P .UnknownCode "UnknownCode.__init__" s_UnknownCode_i ["code"] C) : ∃ C fi fd, ExM P w K mg base .UnknownCode ["code"] C fi fd ["self", "code"] := by
  obtain ⟨C, h⟩ := h
  obtain ⟨fi, fd, m⟩ := ExI.walkA (w := w) (mg := mg) (base := base) (x := "code") h rfl ⟨rfl, rfl, rfl, by decide +kernel, rfl, by decide +kernel, by decide +kernel, by decide +kernel, by decide +kernel, by decide +kernel⟩ rfl rfl (by decide) (by decide) (by decide)
    (fun _ _ _ _ => ⟨_, rfl⟩) (fun _ _ _ _ => rfl) (fun _ _ _ _ => rfl) (fun _ _ _ _ => rfl) (by
      rintro fi fd ⟨kV, doc, pm, an, ct, cdv, cc, rfl⟩
      exact fun s us hk hl => match us, hl with | [_, _], _ => BindsTo.of_eq rfl)
  exact ⟨C, fi, fd, m⟩
structure Cls (P : Program) (w : World) (K : PySem.W.Frag) (mg : Str → Option Value) (base : Heap) (C_CorpusError : Addr) (C_TooLarge : Addr) (C_InvalidBytes : Addr) (C_UnknownCode : Addr) (fi_UnknownCode : Addr) (fd_UnknownCode : FuncData) : Prop where
  g_CorpusError : mg "CorpusError" = some (.ref C_CorpusError)
  kit_CorpusError : KitOk K cl .CorpusError C_CorpusError
  g_TooLarge : mg "TooLarge" = some (.ref C_TooLarge)
  n_TooLarge : ExN K .TooLarge C_TooLarge
  x_TooLarge : ExmOk K cl .TooLarge C_TooLarge
  kit_TooLarge : KitOk K cl .TooLarge C_TooLarge
  g_InvalidBytes : mg "InvalidBytes" = some (.ref C_InvalidBytes)
  kit_InvalidBytes : KitOk K cl .InvalidBytes C_InvalidBytes
  g_UnknownCode : mg "UnknownCode" = some (.ref C_UnknownCode)
  m_UnknownCode : ExM P w K mg base .UnknownCode ["code"] C_UnknownCode fi_UnknownCode fd_UnknownCode ["self", "code"]
  nm_UnknownCode : NmC K .UnknownCode C_UnknownCode
  xf_UnknownCode : XfC K C_UnknownCode
  no_UnknownCode_code : PySem.W.findIn K (.ref C_UnknownCode) "code" = some none
  x_UnknownCode : ExmOk K cl .UnknownCode C_UnknownCode
  kitV : KitV K cl
variable {C_CorpusError : Addr}
variable {C_TooLarge : Addr}
variable {C_InvalidBytes : Addr}
variable {C_UnknownCode : Addr}
variable {fi_UnknownCode : Addr}
variable {fd_UnknownCode : FuncData}
theorem ok_Ldraw (F : FunAt K mg "_law_draw" s_Ldraw ["_law_box", "_law_many"]) (z_len : mg "len" = none) (z_int : mg "int" = none) : Cal P w K mg base 1 "_law_draw" ["_law_box", "_law_many"] sp_Ldraw := by
  refine F.cal fun f fd F => ok_def (N := N_Ldraw) (wb := w_Ldraw) F sc_Ldraw har_Ldraw (by decide) (fun cdv A outer s0 H E hr => ?_) pure_Ldraw
  have hu1 := hu_of hr
  have hu64 := hr.units
  have hu65 := hu65_of hr
  exact ⟨_, (sss_cons (ss_set (i := 2) sc_Ldraw.nd rfl (Or.inl rfl) (se_ix (se_var (pv 0)) se_int (fun _ _ => rfl))) (sss_cons (ss_setIx (i := 0) (pv 0) se_int (se_op op_addA dAdd_ok (se_var (pv 2)) se_int)) (sss_cons (ss_if (st_cmp op_lt dLt_ok (se_var (pv 2)) (se_callB call_lenA dLen_ok (by rfl) z_len (by decide +kernel) (sa_cons (se_ix (se_var (pv 0)) se_int (fun _ _ => rfl)) sa_nil)) (nomark _)) (sss_one (ss_ret (se_op op_mod dMod_ok (se_callTy call_int1 dInt_ok (by rfl) z_int (by decide +kernel) (sa_cons (se_ix (se_ix (se_var (pv 0)) se_int (fun _ _ => rfl)) (se_var (pv 2)) (fun _ _ => rfl)) sa_nil)) (se_var (pv 1))))) sss_nil) (sss_one (ss_ret se_int)))))⟩
theorem ok_Lany (F : FunAt K mg "_law_any" s_Lany ["_law_box"]) (c_Ldraw : Cal P w K mg base 1 "_law_draw" ["_law_box", "_law_many"] sp_Ldraw) : Cal P w K mg base 2 "_law_any" ["_law_box"] sp_Lany := by
  obtain ⟨f_Ldraw, fd_Ldraw, G_Ldraw, m_Ldraw, k_Ldraw, b_Ldraw⟩ := c_Ldraw
  refine F.cal fun f fd F => ok_def (N := N_Lany) (wb := w_Lany) F sc_Lany har_Lany (by decide) (fun cdv A outer s0 H E hr => ?_) pure_Lany
  have hu1 := hu_of hr
  have hu64 := hr.units
  have hu65 := hu65_of hr
  exact ⟨_, (sss_cons (ss_set (i := 1) sc_Lany.nd rfl (Or.inl rfl) se_str) (sss_one (ss_ret (se_ix (se_var (pv 1)) (se_call G_Ldraw (hr.mono (by omega)) (by rfl) m_Ldraw k_Ldraw b_Ldraw (sa_cons (se_var (pv 0)) (sa_cons se_int sa_nil))) (fun _ _ => rfl)))))⟩
theorem ok_Ldoubling (F : FunAt K mg "_law_doubling" s_Ldoubling ["_law_box"]) (z_ord : mg "ord" = none) (z_range : mg "range" = none) (c_Lany : Cal P w K mg base 2 "_law_any" ["_law_box"] sp_Lany) (c_Ldraw : Cal P w K mg base 1 "_law_draw" ["_law_box", "_law_many"] sp_Ldraw) : Cal P w K mg base 3 "_law_doubling" ["_law_box"] sp_Ldoubling := by
  obtain ⟨f_Lany, fd_Lany, G_Lany, m_Lany, k_Lany, b_Lany⟩ := c_Lany
  obtain ⟨f_Ldraw, fd_Ldraw, G_Ldraw, m_Ldraw, k_Ldraw, b_Ldraw⟩ := c_Ldraw
  refine F.cal fun f fd F => ok_def (N := N_Ldoubling) (wb := w_Ldoubling) F sc_Ldoubling har_Ldoubling (by decide) (fun cdv A outer s0 H E hr => ?_) pure_Ldoubling
  have hu1 := hu_of hr
  have hu64 := hr.units
  have hu65 := hu65_of hr
  exact ⟨_, (sss_cons (ss_set (i := 1) sc_Ldoubling.nd rfl (Or.inl rfl) (se_op op_addA dAdd_ok se_int (se_callB call_ord dOrd_ok (by rfl) z_ord (by decide +kernel) (sa_cons (se_call G_Lany (hr.mono (by omega)) (by rfl) m_Lany k_Lany b_Lany (sa_cons (se_var (pv 0)) sa_nil)) sa_nil)))) (sss_cons (ss_set (i := 2) sc_Ldoubling.nd rfl (Or.inl rfl) (se_lst (sa_cons (se_tup (sa_cons (se_var (pv 1)) (sa_cons (se_var (pv 1)) sa_nil))) sa_nil))) (sss_cons (ss_for PassesOwn.never rfl (si_range1 (by rfl) z_range (sa_cons (se_call G_Ldraw (hr.mono (by omega)) (by rfl) m_Ldraw k_Ldraw b_Ldraw (sa_cons (se_var (pv 0)) (sa_cons se_int sa_nil))) sa_nil)) (sg_name (i := 3) sc_Ldoubling.nd rfl (Or.inl rfl)) (sss_cons (ss_set (i := 4) sc_Ldoubling.nd rfl (Or.inl rfl) (se_op op_addA dAdd_ok se_int (se_var (pv 3)))) (sss_one (ss_append (pv 2) (se_ix (se_lst (sa_cons (se_tup (sa_cons (se_var (pv 4)) (sa_cons (se_var (pv 4)) sa_nil))) (sa_cons (se_tup (sa_cons (se_var (pv 4)) (sa_cons (se_var (pv 4)) sa_nil))) (sa_cons (se_tup (sa_cons (se_var (pv 4)) (sa_cons (se_var (pv 1)) sa_nil))) (sa_cons (se_tup (sa_cons (se_var (pv 1)) (sa_cons (se_var (pv 4)) sa_nil))) sa_nil))))) (se_call G_Ldraw (hr.mono (by omega)) (by rfl) m_Ldraw k_Ldraw b_Ldraw (sa_cons (se_var (pv 0)) (sa_cons se_int sa_nil))) (fun _ _ => rfl)))))) (sss_one (ss_ret (se_var (pv 2)))))))⟩
theorem ok_Lsizes (F : FunAt K mg "_law_sizes" s_Lsizes ["_law_joins"]) : Cal P w K mg base 1 "_law_sizes" ["_law_joins"] sp_Lsizes := by
  refine F.cal fun f fd F => ok_def (N := N_Lsizes) (wb := w_Lsizes) F sc_Lsizes har_Lsizes (by decide) (fun cdv A outer s0 H E hr => ?_) pure_Lsizes
  have hu1 := hu_of hr
  have hu64 := hr.units
  have hu65 := hu65_of hr
  exact ⟨_, (sss_cons (ss_set (i := 1) sc_Lsizes.nd rfl (Or.inl rfl) (se_lst sa_nil)) (sss_cons (ss_for PassesOwn.never rfl (si_list (se_var (pv 0))) (sg_tup (n := 2) rfl (sgs_cons (sg_name (i := 2) sc_Lsizes.nd rfl (Or.inl rfl)) (sgs_cons (sg_name (i := 3) sc_Lsizes.nd rfl (Or.inl rfl)) sgs_nil))) (sss_cons (ss_set (i := 4) sc_Lsizes.nd rfl (Or.inl rfl) se_int) (sss_cons (ss_for PassesOwn.never rfl (si_list (se_lst (sa_cons (se_var (pv 2)) (sa_cons (se_var (pv 3)) sa_nil)))) (sg_name (i := 5) sc_Lsizes.nd rfl (Or.inl rfl)) (sss_one (ss_if (st_cmp op_lt dLt_ok (se_var (pv 5)) se_int (nomark _)) (sss_one (ss_set (i := 4) sc_Lsizes.nd rfl (Or.inl rfl) (se_op op_addA dAdd_ok (se_var (pv 4)) se_int))) (sss_one (ss_set (i := 4) sc_Lsizes.nd rfl (Or.inl rfl) (se_op op_addA dAdd_ok (se_var (pv 4)) (se_ix (se_var (pv 1)) (se_op op_sub dSub_ok (se_var (pv 5)) se_int) (fun _ _ => rfl)))))))) (sss_one (ss_append (pv 1) (se_var (pv 4))))))) (sss_one (ss_ret (se_var (pv 1))))))⟩
theorem ok_Ldrawn_codes (F : FunAt K mg "_law_drawn_codes" s_Ldrawn_codes ["_law_box", "_law_joins"]) (z_range : mg "range" = none) (z_ord : mg "ord" = none) (z_len : mg "len" = none) (z_min : mg "min" = none) (c_Ldraw : Cal P w K mg base 1 "_law_draw" ["_law_box", "_law_many"] sp_Ldraw) (c_Lany : Cal P w K mg base 2 "_law_any" ["_law_box"] sp_Lany) : Cal P w K mg base 3 "_law_drawn_codes" ["_law_box", "_law_joins"] sp_Ldrawn_codes := by
  obtain ⟨f_Ldraw, fd_Ldraw, G_Ldraw, m_Ldraw, k_Ldraw, b_Ldraw⟩ := c_Ldraw
  obtain ⟨f_Lany, fd_Lany, G_Lany, m_Lany, k_Lany, b_Lany⟩ := c_Lany
  refine F.cal fun f fd F => ok_def (N := N_Ldrawn_codes) (wb := w_Ldrawn_codes) F sc_Ldrawn_codes har_Ldrawn_codes (by decide) (fun cdv A outer s0 H E hr => ?_) pure_Ldrawn_codes
  have hu1 := hu_of hr
  have hu64 := hr.units
  have hu65 := hu65_of hr
  exact ⟨_, (sss_cons (ss_set (i := 2) sc_Ldrawn_codes.nd rfl (Or.inl rfl) (se_lst sa_nil)) (sss_cons (ss_for PassesOwn.never rfl (si_range1 (by rfl) z_range (sa_cons (se_call G_Ldraw (hr.mono (by omega)) (by rfl) m_Ldraw k_Ldraw b_Ldraw (sa_cons (se_var (pv 0)) (sa_cons se_int sa_nil))) sa_nil)) (sg_name (i := 3) sc_Ldrawn_codes.nd rfl (Or.inl rfl)) (sss_cons (ss_set (i := 4) sc_Ldrawn_codes.nd rfl (Or.inl rfl) (se_call G_Ldraw (hr.mono (by omega)) (by rfl) m_Ldraw k_Ldraw b_Ldraw (sa_cons (se_var (pv 0)) (sa_cons se_int sa_nil)))) (sss_one (ss_if (st_cmp (op_eqA hu64) dEq_ok (se_var (pv 4)) se_int (nomark _)) (sss_one (ss_append (pv 2) (se_op op_addA dAdd_ok se_int (se_callB call_ord dOrd_ok (by rfl) z_ord (by decide +kernel) (sa_cons (se_call G_Lany (hr.mono (by omega)) (by rfl) m_Lany k_Lany b_Lany (sa_cons (se_var (pv 0)) sa_nil)) sa_nil))))) (sss_one (ss_if (st_cmp (op_eqA hu64) dEq_ok (se_var (pv 4)) se_int (nomark _)) (sss_one (ss_append (pv 2) (se_op op_addA dAdd_ok se_int (se_call G_Ldraw (hr.mono (by omega)) (by rfl) m_Ldraw k_Ldraw b_Ldraw (sa_cons (se_var (pv 0)) (sa_cons (se_callB call_lenA dLen_ok (by rfl) z_len (by decide +kernel) (sa_cons (se_var (pv 1)) sa_nil)) sa_nil)))))) (sss_one (ss_append (pv 2) (se_op op_addA dAdd_ok se_int (se_call G_Ldraw (hr.mono (by omega)) (by rfl) m_Ldraw k_Ldraw b_Ldraw (sa_cons (se_var (pv 0)) (sa_cons (se_callB (call_min2 rfl) dMin2_ok (by rfl) z_min (by decide +kernel) (sa_cons (se_callB call_lenA dLen_ok (by rfl) z_len (by decide +kernel) (sa_cons (se_var (pv 1)) sa_nil)) (sa_cons se_int sa_nil))) sa_nil)))))))))))) (sss_one (ss_ret (se_var (pv 2))))))⟩
theorem ok_Lcell (F : FunAt K mg "_law_cell" s_Lcell ["_law_script", "_law_k"]) (z_len : mg "len" = none) : Cal P w K mg base 1 "_law_cell" ["_law_script", "_law_k"] sp_Lcell := by
  refine F.cal fun f fd F => ok_def (N := N_Lcell) (wb := w_Lcell) F sc_Lcell har_Lcell (by decide) (fun cdv A outer s0 H E hr => ?_) pure_Lcell
  have hu1 := hu_of hr
  have hu64 := hr.units
  have hu65 := hu65_of hr
  exact ⟨_, (sss_cons (ss_if (st_cmp op_lt dLt_ok (se_var (pv 1)) (se_callB call_lenA dLen_ok (by rfl) z_len (by decide +kernel) (sa_cons (se_var (pv 0)) sa_nil)) (nomark _)) (sss_one (ss_ret (se_ix (se_var (pv 0)) (se_var (pv 1)) (fun _ _ => rfl)))) sss_nil) (sss_one (ss_ret se_int)))⟩
theorem ok_Ldigits (F : FunAt K mg "_law_digits" s_Ldigits ["_law_script", "_law_first", "_law_last"]) (z_range : mg "range" = none) (z_int : mg "int" = none) (c_Lcell : Cal P w K mg base 1 "_law_cell" ["_law_script", "_law_k"] sp_Lcell) : Cal P w K mg base 2 "_law_digits" ["_law_script", "_law_first", "_law_last"] sp_Ldigits := by
  obtain ⟨f_Lcell, fd_Lcell, G_Lcell, m_Lcell, k_Lcell, b_Lcell⟩ := c_Lcell
  refine F.cal fun f fd F => ok_def (N := N_Ldigits) (wb := w_Ldigits) F sc_Ldigits har_Ldigits (by decide) (fun cdv A outer s0 H E hr => ?_) pure_Ldigits
  have hu1 := hu_of hr
  have hu64 := hr.units
  have hu65 := hu65_of hr
  exact ⟨_, (sss_cons (ss_set (i := 3) sc_Ldigits.nd rfl (Or.inl rfl) (se_lst sa_nil)) (sss_cons (ss_for PassesOwn.never rfl (si_range2 (by rfl) z_range (sa_cons (se_var (pv 1)) (sa_cons (se_var (pv 2)) sa_nil))) (sg_name (i := 4) sc_Ldigits.nd rfl (Or.inl rfl)) (sss_cons (ss_set (i := 5) sc_Ldigits.nd rfl (Or.inl rfl) (se_call G_Lcell (hr.mono (by omega)) (by rfl) m_Lcell k_Lcell b_Lcell (sa_cons (se_var (pv 0)) (sa_cons (se_var (pv 4)) sa_nil)))) (sss_cons (ss_if (st_cmp op_lt dLt_ok (se_var (pv 5)) se_int (nomark _)) (sss_one (ss_set (i := 5) sc_Ldigits.nd rfl (Or.inl rfl) (se_op op_sub dSub_ok se_int (se_op op_mulA dMul_ok se_int (se_var (pv 5)))))) sss_nil) (sss_one (ss_if (st_cmp op_ge dGe_ok (se_var (pv 5)) (se_op op_pow dPow_ok se_int se_int) (nomark _)) (sss_one (ss_for PassesOwn.never rfl (si_range1 (by rfl) z_range (sa_cons se_int sa_nil)) (sg_name (i := 6) sc_Ldigits.nd rfl (Or.inl rfl)) (sss_one (ss_if (st_cmp op_gt dGt_ok (se_var (pv 5)) se_int (nomark _)) (sss_cons (ss_append (pv 3) (se_op op_mod dMod_ok (se_callTy call_int1 dInt_ok (by rfl) z_int (by decide +kernel) (sa_cons (se_var (pv 5)) sa_nil)) se_int)) (sss_one (ss_set (i := 5) sc_Ldigits.nd rfl (Or.inl rfl) (se_op op_fdiv dFdiv_ok (se_var (pv 5)) se_int)))) sss_nil)))) (sss_cons (ss_set (i := 7) sc_Ldigits.nd rfl (Or.inl rfl) (se_op op_mod dMod_ok (se_callTy call_int1 dInt_ok (by rfl) z_int (by decide +kernel) (sa_cons (se_op op_addA dAdd_ok (se_op op_addA dAdd_ok (se_op op_mulA dMul_ok (se_var (pv 5)) se_int) (se_op op_mulA dMul_ok (se_var (pv 4)) se_int)) se_int) sa_nil)) se_int)) (sss_one (ss_for PassesOwn.never rfl (si_range1 (by rfl) z_range (sa_cons se_int sa_nil)) (sg_name (i := 6) sc_Ldigits.nd rfl (Or.inl rfl)) (sss_cons (ss_set (i := 7) sc_Ldigits.nd rfl (Or.inl rfl) (se_op op_mod dMod_ok (se_callTy call_int1 dInt_ok (by rfl) z_int (by decide +kernel) (sa_cons (se_op op_addA dAdd_ok (se_op op_addA dAdd_ok (se_op op_mulA dMul_ok (se_var (pv 7)) se_int) (se_op op_mulA dMul_ok se_int (se_var (pv 6)))) se_int) sa_nil)) se_int)) (sss_one (ss_append (pv 3) (se_op op_mod dMod_ok (se_callTy call_int1 dInt_ok (by rfl) z_int (by decide +kernel) (sa_cons (se_op op_fdiv dFdiv_ok (se_var (pv 7)) se_int) sa_nil)) se_int)))))))))))) (sss_one (ss_ret (se_var (pv 3))))))⟩
theorem ok_Lsame (F : FunAt K mg "_law_same" s_Lsame ["_law_actual", "_law_due_here"]) (z_tuple : mg "tuple" = none) (z_isinstance : mg "isinstance" = none) (z_list : mg "list" = none) (z_len : mg "len" = none) (z_range : mg "range" = none) (z_bool : mg "bool" = none) (z_str : mg "str" = none) (z_int : mg "int" = none) : ∀ n : Nat, Cal P w K mg base (n + 0) "_law_same" ["_law_actual", "_law_due_here"] (sp_Lsame n)
  | 0 => F.none _ rfl
  | n + 1 => by
    obtain ⟨f_self, fd_self, G_self, m_self, k_self, b_self⟩ := ok_Lsame F z_tuple z_isinstance z_list z_len z_range z_bool z_str z_int n
    refine F.cal fun f fd F => ok_def (N := N_Lsame) (wb := w_Lsame (sp_Lsame n)) F sc_Lsame (har_Lsame (n + 1)) (by decide) (fun cdv A outer s0 H E hr => ?_) (pure_Lsame n)
    have hu1 := hu_of hr
    have hu64 := hr.units
    have hu65 := hu65_of hr
    exact ⟨_, (sss_cons (ss_if (SW.st (sw_or (st_val (se_callB call_isi dIsi_ok (by rfl) z_isinstance (by decide +kernel) (sa_cons (se_var (pv 1)) (sa_cons (se_ty (by rfl) z_list (by decide +kernel)) sa_nil)))) (sw_or1 (st_val (se_callB call_isi dIsi_ok (by rfl) z_isinstance (by decide +kernel) (sa_cons (se_var (pv 1)) (sa_cons (se_ty (by rfl) z_tuple (by decide +kernel)) sa_nil))))))) (sss_cons (ss_if (SW.st (sw_or (st_cmp (op_neA hu64) dNe_ok (se_callB call_isi dIsi_ok (by rfl) z_isinstance (by decide +kernel) (sa_cons (se_var (pv 1)) (sa_cons (se_ty (by rfl) z_list (by decide +kernel)) sa_nil))) (se_callB call_isi dIsi_ok (by rfl) z_isinstance (by decide +kernel) (sa_cons (se_var (pv 0)) (sa_cons (se_ty (by rfl) z_list (by decide +kernel)) sa_nil))) (nomark _)) (sw_or1 (st_cmp (op_neA hu64) dNe_ok (se_callB call_isi dIsi_ok (by rfl) z_isinstance (by decide +kernel) (sa_cons (se_var (pv 1)) (sa_cons (se_ty (by rfl) z_tuple (by decide +kernel)) sa_nil))) (se_callB call_isi dIsi_ok (by rfl) z_isinstance (by decide +kernel) (sa_cons (se_var (pv 0)) (sa_cons (se_ty (by rfl) z_tuple (by decide +kernel)) sa_nil))) (nomark _))))) (sss_one (ss_ret se_bl)) sss_nil) (sss_cons (ss_if (st_cmp (op_neA hu64) dNe_ok (se_callB call_lenA dLen_ok (by rfl) z_len (by decide +kernel) (sa_cons (se_var (pv 0)) sa_nil)) (se_callB call_lenA dLen_ok (by rfl) z_len (by decide +kernel) (sa_cons (se_var (pv 1)) sa_nil)) (nomark _)) (sss_one (ss_ret se_bl)) sss_nil) (sss_cons (ss_for PassesOwn.never rfl (si_range1 (by rfl) z_range (sa_cons (se_callB call_lenA dLen_ok (by rfl) z_len (by decide +kernel) (sa_cons (se_var (pv 1)) sa_nil)) sa_nil)) (sg_name (i := 2) sc_Lsame.nd rfl (Or.inl rfl)) (sss_one (ss_if (st_not (st_val (se_call G_self (hr.mono (by omega)) (by rfl) m_self k_self b_self (sa_cons (se_ix (se_var (pv 0)) (se_var (pv 2)) (fun _ _ => rfl)) (sa_cons (se_ix (se_var (pv 1)) (se_var (pv 2)) (fun _ _ => rfl)) sa_nil))))) (sss_one (ss_ret se_bl)) sss_nil))) (sss_one (ss_ret se_bl))))) sss_nil) (sss_cons (ss_if (st_cmp op_isN dIs_ok (se_var (pv 1)) se_non (nomark _)) (sss_one (ss_ret (se_cmp op_isN dIs_ok (se_var (pv 0)) se_non (nomark _)))) sss_nil) (sss_cons (ss_if (st_val (se_callB call_isi dIsi_ok (by rfl) z_isinstance (by decide +kernel) (sa_cons (se_var (pv 1)) (sa_cons (se_ty (by rfl) z_bool (by decide +kernel)) sa_nil)))) (sss_one (ss_ret (se_and (se_callB call_isi dIsi_ok (by rfl) z_isinstance (by decide +kernel) (sa_cons (se_var (pv 0)) (sa_cons (se_ty (by rfl) z_bool (by decide +kernel)) sa_nil))) (se_one (se_cmp (op_eqA hu64) dEq_ok (se_var (pv 0)) (se_var (pv 1)) (nomark _)))))) sss_nil) (sss_cons (ss_if (st_val (se_callB call_isi dIsi_ok (by rfl) z_isinstance (by decide +kernel) (sa_cons (se_var (pv 1)) (sa_cons (se_ty (by rfl) z_str (by decide +kernel)) sa_nil)))) (sss_one (ss_ret (se_and (se_callB call_isi dIsi_ok (by rfl) z_isinstance (by decide +kernel) (sa_cons (se_var (pv 0)) (sa_cons (se_ty (by rfl) z_str (by decide +kernel)) sa_nil))) (se_one (se_cmp (op_eqA hu64) dEq_ok (se_var (pv 0)) (se_var (pv 1)) (nomark _)))))) sss_nil) (sss_one (ss_ret (se_and (se_callB call_isi dIsi_ok (by rfl) z_isinstance (by decide +kernel) (sa_cons (se_var (pv 0)) (sa_cons (se_ty (by rfl) z_int (by decide +kernel)) sa_nil))) (se_and (se_not (se_callB call_isi dIsi_ok (by rfl) z_isinstance (by decide +kernel) (sa_cons (se_var (pv 0)) (sa_cons (se_ty (by rfl) z_bool (by decide +kernel)) sa_nil)))) (se_one (se_cmp (op_eqA hu64) dEq_ok (se_var (pv 0)) (se_var (pv 1)) (nomark _)))))))))))⟩
theorem ok_u_char_table (F : FunAt K mg "_char_table" s_u_char_table []) (z_ord : mg "ord" = none) {t_CHARS : Tok} (g_CHARS : mg "CHARS" = some (.str "\n !\"#$&'()*+,-./0123456789:;<=>?@ABCDEFGHIJKLMNOPQRSTUVWXYZ[\\]^_`abcdefghijklmnopqrstuvwxyz{|}~" t_CHARS)) : Cal P w K mg base 1 "_char_table" [] sp_u_char_table := by
  refine F.cal fun f fd F => ok_def (N := N_u_char_table) (wb := w_u_char_table) F sc_u_char_table har_u_char_table (by decide) (fun cdv A outer s0 H E hr => ?_) pure_u_char_table
  have hu1 := hu_of hr
  have hu64 := hr.units
  have hu65 := hu65_of hr
  exact ⟨_, (sss_one (ss_ret (se_dc .k (own := [("char", 0)]) (Nat.lt_of_succ_lt hu1) rfl sc_u_char_table.nd (si_str (se_globS (by rfl) g_CHARS)) (blkOk_by (own := [("char", 0)]) (N := N_u_char_table) (sc := defScope s_u_char_table) (by decide +kernel)) (by intro _ _ _ _ _; exact ⟨_, (sg_name (i := 0) sc_u_char_table.nd rfl (Or.inl rfl))⟩) (by decide) (by intro _ _ _ _ _; exact ⟨_, sts_nil⟩) (by intro _ _ _ _ _; exact ⟨_, (se_op op_addA dAdd_ok se_int (se_callB call_ord dOrd_ok (by rfl) z_ord (by decide +kernel) (sa_cons (se_var (pv 0)) sa_nil)))⟩) (by intro _ _ _ _ _; exact ⟨_, (se_var (pv 0))⟩))))⟩
theorem ok_u_text_of (F : FunAt K mg "_text_of" s_u_text_of ["joins", "codes"]) (z_reversed : mg "reversed" = none) (z_len : mg "len" = none) {t_FIRST_JOIN : Tok} (g_FIRST_JOIN : mg "FIRST_JOIN" = some (.int 200 t_FIRST_JOIN)) (c_u_char_table : Cal P w K mg base 1 "_char_table" [] sp_u_char_table) : Cal P w K mg base 2 "_text_of" ["joins", "codes"] sp_u_text_of := by
  obtain ⟨f_u_char_table, fd_u_char_table, G_u_char_table, m_u_char_table, k_u_char_table, b_u_char_table⟩ := c_u_char_table
  refine F.cal fun f fd F => ok_def (N := N_u_text_of) (wb := w_u_text_of) F sc_u_text_of har_u_text_of (by decide) (fun cdv A outer s0 H E hr => ?_) pure_u_text_of
  have hu1 := hu_of hr
  have hu64 := hr.units
  have hu65 := hu65_of hr
  exact ⟨_, (sss_cons (ss_set (i := 2) sc_u_text_of.nd rfl (Or.inl rfl) (se_call0 G_u_char_table (hr.mono (by omega)) (by rfl) m_u_char_table k_u_char_table b_u_char_table)) (sss_cons (ss_setLc (i := 3) (own := [("code", 5)]) rfl sc_u_text_of.nd rfl rfl (sw_true rfl rfl rfl (by decide +kernel)) (si_revL (by rfl) z_reversed (sa_cons (se_var (pv 1)) sa_nil)) (blkOk_by (own := [("code", 5)]) (N := N_u_text_of) (sc := defScope s_u_text_of) (by decide +kernel)) (by intro _ _ _ _ _; exact ⟨_, (sg_name (i := 5) sc_u_text_of.nd rfl (Or.inl rfl))⟩) (by decide) (by intro _ _ _ _ _; exact ⟨_, sts_nil⟩) (by intro _ _ _ _ _; exact ⟨_, (se_var (pv 5))⟩)) (sss_cons (ss_set (i := 4) sc_u_text_of.nd rfl (Or.inl rfl) (se_lst sa_nil)) (sss_cons (ss_while PassesOwn.never (st_cmp op_gt dGt_ok (se_callB call_lenA dLen_ok (by rfl) z_len (by decide +kernel) (sa_cons (se_var (pv 3)) sa_nil)) se_int (nomark _)) (sss_cons (ss_setPop (j := 5) sc_u_text_of.nd rfl (Or.inl rfl) (pv 3)) (sss_one (ss_if (st_din hu1 (se_var (pv 5)) (se_var (pv 2)) (by rfl)) (sss_one (ss_append (pv 4) (se_dget hu1 (se_var (pv 2)) (se_var (pv 5)) (fun _ _ => rfl)))) (sss_cons (ss_asg (se_ix (se_var (pv 0)) (se_op op_sub dSub_ok (se_var (pv 5)) (se_globI (by rfl) g_FIRST_JOIN)) (fun _ _ => rfl)) (sg_tup (n := 2) rfl (sgs_cons (sg_name (i := 6) sc_u_text_of.nd rfl (Or.inl rfl)) (sgs_cons (sg_name (i := 7) sc_u_text_of.nd rfl (Or.inl rfl)) sgs_nil)))) (sss_cons (ss_append (pv 3) (se_var (pv 7))) (sss_one (ss_append (pv 3) (se_var (pv 6)))))))))) (sss_one (ss_ret (se_mt PySem.F.plainAttrs_str PySem.F.slot_str_join PySem.F.type_str_join mt_joinA dJoin_ok se_str (sa_cons (se_var (pv 4)) sa_nil))))))))⟩
theorem ok_u_lengths (F : FunAt K mg "_lengths" s_u_lengths ["joins"]) (z_ord : mg "ord" = none) (z_len : mg "len" = none) (z_range : mg "range" = none) {t_CHARS : Tok} (g_CHARS : mg "CHARS" = some (.str "\n !\"#$&'()*+,-./0123456789:;<=>?@ABCDEFGHIJKLMNOPQRSTUVWXYZ[\\]^_`abcdefghijklmnopqrstuvwxyz{|}~" t_CHARS)) {t_FIRST_JOIN : Tok} (g_FIRST_JOIN : mg "FIRST_JOIN" = some (.int 200 t_FIRST_JOIN)) : Cal P w K mg base 1 "_lengths" ["joins"] sp_u_lengths := by
  refine F.cal fun f fd F => ok_def (N := N_u_lengths) (wb := w_u_lengths) F sc_u_lengths har_u_lengths (by decide) (fun cdv A outer s0 H E hr => ?_) pure_u_lengths
  have hu1 := hu_of hr
  have hu64 := hr.units
  have hu65 := hu65_of hr
  exact ⟨_, (sss_cons (ss_setDc .k (i := 1) (own := [("char", 5)]) (Nat.lt_of_succ_lt hu1) rfl sc_u_lengths.nd rfl rfl (sw_trueD rfl rfl rfl (by decide +kernel)) (si_str (se_globS (by rfl) g_CHARS)) (blkOk_by (own := [("char", 5)]) (N := N_u_lengths) (sc := defScope s_u_lengths) (by decide +kernel)) (by intro _ _ _ _ _; exact ⟨_, (sg_name (i := 5) sc_u_lengths.nd rfl (Or.inl rfl))⟩) (by decide) (by intro _ _ _ _ _; exact ⟨_, sts_nil⟩) (by intro _ _ _ _ _; exact ⟨_, (se_op op_addA dAdd_ok se_int (se_callB call_ord dOrd_ok (by rfl) z_ord (by decide +kernel) (sa_cons (se_var (pv 5)) sa_nil)))⟩) (by intro _ _ _ _ _; exact ⟨_, se_int⟩)) (sss_cons (ss_for PassesOwn.never rfl (si_range1 (by rfl) z_range (sa_cons (se_callB call_lenA dLen_ok (by rfl) z_len (by decide +kernel) (sa_cons (se_var (pv 0)) sa_nil)) sa_nil)) (sg_name (i := 2) sc_u_lengths.nd rfl (Or.inl rfl)) (sss_cons (ss_asg (se_ix (se_var (pv 0)) (se_var (pv 2)) (fun _ _ => rfl)) (sg_tup (n := 2) rfl (sgs_cons (sg_name (i := 3) sc_u_lengths.nd rfl (Or.inl rfl)) (sgs_cons (sg_name (i := 4) sc_u_lengths.nd rfl (Or.inl rfl)) sgs_nil)))) (sss_one (ss_dput (i := 1) hu1 (pv 1) (se_op op_addA dAdd_ok (se_globI (by rfl) g_FIRST_JOIN) (se_var (pv 2))) (se_op op_addA dAdd_ok (se_dget hu1 (se_var (pv 1)) (se_var (pv 3)) (fun _ _ => rfl)) (se_dget hu1 (se_var (pv 1)) (se_var (pv 4)) (fun _ _ => rfl))))))) (sss_one (ss_ret (se_var (pv 1))))))⟩
theorem ok_text_length (F : FunAt K mg "text_length" s_text_length ["joins", "codes"]) (CL : Cls P w K mg base C_CorpusError C_TooLarge C_InvalidBytes C_UnknownCode fi_UnknownCode fd_UnknownCode) (c_u_lengths : Cal P w K mg base 1 "_lengths" ["joins"] sp_u_lengths) : CalX (L2N.CX P w) P w K mg base 3 "text_length" ["joins", "codes"] sp_text_length := by
  obtain ⟨f_u_lengths, fd_u_lengths, G_u_lengths, m_u_lengths, k_u_lengths, b_u_lengths⟩ := c_u_lengths
  refine F.calX fun f fd F => ok_defX (N := N_text_length) (wb := w_text_length) F sc_text_length har_text_length (by decide) (fun cdv A outer s0 H E hr => ?_) pure_text_length
  have hu1 := hu_of hr
  have hu64 := hr.units
  have hu65 := hu65_of hr
  exact ⟨_, (sss_cons (ss_set (i := 2) sc_text_length.nd rfl (Or.inl rfl) (se_call G_u_lengths (hr.mono (by omega)) (by rfl) m_u_lengths k_u_lengths b_u_lengths (sa_cons (se_var (pv 0)) sa_nil))) (sss_cons (ss_set (i := 3) sc_text_length.nd rfl (Or.inl rfl) se_int) (sss_cons (ss_for (passes_of rfl) rfl (si_list (se_var (pv 1))) (sg_name (i := 4) sc_text_length.nd rfl (Or.inl rfl)) (sss_cons (ss_if (st_dnotin hu1 (se_var (pv 4)) (se_var (pv 2)) (by rfl)) (sss_one (ss_raiseN (x := .UnknownCode) CL.m_UnknownCode (hr.mono (by omega)) rfl (L2N.takes_of rfl rfl rfl rfl) (by rfl) CL.g_UnknownCode (sa_cons (se_var (pv 4)) sa_nil))) sss_nil) (sss_one (ss_aug (i := 3) sc_text_length.nd rfl (Or.inl rfl) (se_dget hu1 (se_var (pv 2)) (se_var (pv 4)) (fun _ _ => rfl)) ip_addA dIAdd_ok)))) (sss_one (ss_ret (se_var (pv 3)))))))⟩
theorem ok_u_bounded_text (F : FunAt K mg "_bounded_text" s_u_bounded_text ["joins", "codes"]) {t_TEXT_MOST : Tok} (g_TEXT_MOST : mg "TEXT_MOST" = some (.int 100000 t_TEXT_MOST)) (CL : Cls P w K mg base C_CorpusError C_TooLarge C_InvalidBytes C_UnknownCode fi_UnknownCode fd_UnknownCode) (c_text_length : CalX (L2N.CX P w) P w K mg base 3 "text_length" ["joins", "codes"] sp_text_length) (c_u_text_of : Cal P w K mg base 2 "_text_of" ["joins", "codes"] sp_u_text_of) : CalX (L2N.CX P w) P w K mg base 4 "_bounded_text" ["joins", "codes"] sp_u_bounded_text := by
  obtain ⟨f_text_length, fd_text_length, G_text_length, m_text_length, k_text_length, b_text_length⟩ := c_text_length
  obtain ⟨f_u_text_of, fd_u_text_of, G_u_text_of, m_u_text_of, k_u_text_of, b_u_text_of⟩ := c_u_text_of
  refine F.calX fun f fd F => ok_defX (N := N_u_bounded_text) (wb := w_u_bounded_text) F sc_u_bounded_text har_u_bounded_text (by decide) (fun cdv A outer s0 H E hr => ?_) pure_u_bounded_text
  have hu1 := hu_of hr
  have hu64 := hr.units
  have hu65 := hu65_of hr
  exact ⟨_, (sss_cons (ss_if (st_cmp op_gt dGt_ok (se_callX G_text_length (hr.mono (by omega)) (psAtN (L2N.takes_of rfl rfl rfl rfl)) (by rfl) m_text_length k_text_length b_text_length (sa_cons (se_var (pv 0)) (sa_cons (se_var (pv 1)) sa_nil))) (se_globI (by rfl) g_TEXT_MOST) (nomark _)) (sss_one (ss_raiseTN (x := .TooLarge) CL.n_TooLarge rfl (L2N.takes_of rfl rfl rfl rfl) (by rfl) CL.g_TooLarge)) sss_nil) (sss_one (ss_ret (se_call G_u_text_of (hr.mono (by omega)) (by rfl) m_u_text_of k_u_text_of b_u_text_of (sa_cons (se_var (pv 0)) (sa_cons (se_var (pv 1)) sa_nil))))))⟩
theorem ok_read_codes (F : FunAt K mg "read_codes" s_read_codes ["joins", "codes"]) (c_u_bounded_text : CalX (L2N.CX P w) P w K mg base 4 "_bounded_text" ["joins", "codes"] sp_u_bounded_text) : CalX (L2N.CX P w) P w K mg base 5 "read_codes" ["joins", "codes"] sp_read_codes := by
  obtain ⟨f_u_bounded_text, fd_u_bounded_text, G_u_bounded_text, m_u_bounded_text, k_u_bounded_text, b_u_bounded_text⟩ := c_u_bounded_text
  refine F.calX fun f fd F => ok_defX (N := N_read_codes) (wb := w_read_codes) F sc_read_codes har_read_codes (by decide) (fun cdv A outer s0 H E hr => ?_) pure_read_codes
  have hu1 := hu_of hr
  have hu64 := hr.units
  have hu65 := hu65_of hr
  exact ⟨_, (sss_cons (ss_set (i := 2) sc_read_codes.nd rfl (Or.inl rfl) (se_mt PySem.F.plainAttrs_str PySem.F.slot_str_split PySem.F.type_str_split mt_splitB dSplit_ok (se_callX G_u_bounded_text (hr.mono (by omega)) (psAtN (L2N.takes_of rfl rfl rfl rfl)) (by rfl) m_u_bounded_text k_u_bounded_text b_u_bounded_text (sa_cons (se_var (pv 0)) (sa_cons (se_var (pv 1)) sa_nil))) (sa_cons se_str sa_nil))) (sss_one (ss_ret (se_tup (sa_cons (se_slice (se_var (pv 2)) so_none (so_some (se_neg se_int))) (sa_cons (se_ix (se_var (pv 2)) (se_neg se_int) (fun _ _ => rfl)) sa_nil))))))⟩
theorem ok_code_text (F : FunAt K mg "code_text" s_code_text ["joins", "code"]) (c_u_bounded_text : CalX (L2N.CX P w) P w K mg base 4 "_bounded_text" ["joins", "codes"] sp_u_bounded_text) : CalX (L2N.CX P w) P w K mg base 5 "code_text" ["joins", "code"] sp_code_text := by
  obtain ⟨f_u_bounded_text, fd_u_bounded_text, G_u_bounded_text, m_u_bounded_text, k_u_bounded_text, b_u_bounded_text⟩ := c_u_bounded_text
  refine F.calX fun f fd F => ok_defX (N := N_code_text) (wb := w_code_text) F sc_code_text har_code_text (by decide) (fun cdv A outer s0 H E hr => ?_) pure_code_text
  have hu1 := hu_of hr
  have hu64 := hr.units
  have hu65 := hu65_of hr
  exact ⟨_, (sss_one (ss_ret (se_callX G_u_bounded_text (hr.mono (by omega)) (psAtN (L2N.takes_of rfl rfl rfl rfl)) (by rfl) m_u_bounded_text k_u_bounded_text b_u_bounded_text (sa_cons (se_var (pv 0)) (sa_cons (se_lst (sa_cons (se_var (pv 1)) sa_nil)) sa_nil)))))⟩
theorem ok_Ltold (F : FunAt K mg "_law_told" s_Ltold ["_law_asked", "_law_joins", "_law_codes"]) (z_len : mg "len" = none) (z_sum : mg "sum" = none) (z_isinstance : mg "isinstance" = none) (z_ValueError : mg "ValueError" = none) (CL : Cls P w K mg base C_CorpusError C_TooLarge C_InvalidBytes C_UnknownCode fi_UnknownCode fd_UnknownCode) (c_text_length : CalX (L2N.CX P w) P w K mg base 3 "text_length" ["joins", "codes"] sp_text_length) (c_code_text : CalX (L2N.CX P w) P w K mg base 5 "code_text" ["joins", "code"] sp_code_text) (c_read_codes : CalX (L2N.CX P w) P w K mg base 5 "read_codes" ["joins", "codes"] sp_read_codes) : Cal P w K mg base 6 "_law_told" ["_law_asked", "_law_joins", "_law_codes"] sp_Ltold := by
  obtain ⟨f_text_length, fd_text_length, G_text_length, m_text_length, k_text_length, b_text_length⟩ := c_text_length
  obtain ⟨f_code_text, fd_code_text, G_code_text, m_code_text, k_code_text, b_code_text⟩ := c_code_text
  obtain ⟨f_read_codes, fd_read_codes, G_read_codes, m_read_codes, k_read_codes, b_read_codes⟩ := c_read_codes
  refine F.cal fun f fd F => ok_def (N := N_Ltold) (wb := w_Ltold) F sc_Ltold har_Ltold (by decide) (fun cdv A outer s0 H E hr => ?_) pure_Ltold
  have hu1 := hu_of hr
  have hu64 := hr.units
  have hu65 := hu65_of hr
  exact ⟨_, (sss_one (ss_tryAs2 (i1 := 5) (c1 := .UnknownCode) (i2 := 6) (c2 := .TooLarge) rfl rfl sc_Ltold.nd rfl rfl ⟨by rfl, by decide, .inl CL.g_UnknownCode⟩ CL.x_UnknownCode rfl rfl ⟨by rfl, by decide, .inl CL.g_TooLarge⟩ CL.x_TooLarge takes0L (by intro W' pn xe tk' po'; exact ⟨_, (sss_cons (ss_if (st_cmp (op_eqA hu64) dEq_ok (se_var (pv 0)) se_str (nomark _)) (sss_one (ss_ret (se_tup (sa_cons se_str (sa_cons (se_callX G_text_length (hr.mono (by omega)) (psAtN (takesN_of tk')) (by rfl) m_text_length k_text_length b_text_length (sa_cons (se_var (pv 1)) (sa_cons (se_var (pv 2)) sa_nil))) sa_nil))))) sss_nil) (sss_cons (ss_if (st_cmp (op_eqA hu64) dEq_ok (se_var (pv 0)) se_str (nomark _)) (sss_one (ss_ret (se_tup (sa_cons se_str (sa_cons (se_callB call_lenA dLen_ok (by rfl) z_len (by decide +kernel) (sa_cons (se_callX G_code_text (hr.mono (by omega)) (psAtN (takesN_of tk')) (by rfl) m_code_text k_code_text b_code_text (sa_cons (se_var (pv 1)) (sa_cons (se_ix (se_var (pv 2)) se_int (fun _ _ => rfl)) sa_nil))) sa_nil)) sa_nil))))) sss_nil) (sss_cons (ss_asg (se_callX G_read_codes (hr.mono (by omega)) (psAtN (takesN_of tk')) (by rfl) m_read_codes k_read_codes b_read_codes (sa_cons (se_var (pv 1)) (sa_cons (se_var (pv 2)) sa_nil))) (sg_tup (n := 2) rfl (sgs_cons (sg_name (i := 3) sc_Ltold.nd rfl (Or.inl rfl)) (sgs_cons (sg_name (i := 4) sc_Ltold.nd rfl (Or.inl rfl)) sgs_nil)))) (sss_one (ss_ret (se_tup (sa_cons se_str (sa_cons (se_op op_addA dAdd_ok (se_callB (cr_sum rfl) dSum_ok (by rfl) z_sum (by decide +kernel) (sa_cons (se_lc (own := [("_law_word_here", 7)]) rfl sc_Ltold.nd (si_list (se_var (pv 3))) (blkOk_by (own := [("_law_word_here", 7)]) (N := N_Ltold) (sc := defScope s_Ltold) (by decide +kernel)) (by intro _ _ _ _ _; exact ⟨_, (sg_name (i := 7) sc_Ltold.nd rfl (Or.inl rfl))⟩) (by decide) (by intro _ _ _ _ _; exact ⟨_, sts_nil⟩) (by intro _ _ _ _ _; exact ⟨_, (se_op op_addA dAdd_ok (se_callB call_lenA dLen_ok (by rfl) z_len (by decide +kernel) (sa_cons (se_var (pv 7)) sa_nil)) se_int)⟩)) sa_nil)) (se_callB call_lenA dLen_ok (by rfl) z_len (by decide +kernel) (sa_cons (se_var (pv 4)) sa_nil))) sa_nil))))))))⟩) (by intro a oe C d pn x hn hz hf; exact ⟨_, (sss_cons (ss_if (SW.st (sw_or (st_val (se_isE hn hz hf CL.kit_TooLarge (se_var (pv 5)) (by rfl) z_isinstance (by decide +kernel) (by rfl) CL.g_TooLarge (by decide))) (sw_or (st_val (se_isE hn hz hf CL.kit_InvalidBytes (se_var (pv 5)) (by rfl) z_isinstance (by decide +kernel) (by rfl) CL.g_InvalidBytes (by decide))) (sw_or1 (st_not (st_val (se_isE hn hz hf CL.kit_CorpusError (se_var (pv 5)) (by rfl) z_isinstance (by decide +kernel) (by rfl) CL.g_CorpusError (by decide)))))))) (sss_one (ss_ret (se_tup (sa_cons se_str sa_nil)))) sss_nil) (sss_one (ss_ret (se_tup (sa_cons se_str (sa_cons (se_xf (f := "code") hn hz hf CL.nm_UnknownCode CL.xf_UnknownCode CL.no_UnknownCode_code (se_var (pv 5))) sa_nil))))))⟩) (by intro a oe C d pn x hn hz hf; exact ⟨_, (sss_cons (ss_if (SW.st (sw_or (st_val (se_isE hn hz hf CL.kit_InvalidBytes (se_var (pv 6)) (by rfl) z_isinstance (by decide +kernel) (by rfl) CL.g_InvalidBytes (by decide))) (sw_or (st_not (st_val (se_isE hn hz hf CL.kit_CorpusError (se_var (pv 6)) (by rfl) z_isinstance (by decide +kernel) (by rfl) CL.g_CorpusError (by decide)))) (sw_or1 (st_not (st_val (se_isV hn hz hf CL.kitV (se_var (pv 6)) (by rfl) z_isinstance (by decide +kernel) (by rfl) z_ValueError (by decide +kernel)))))))) (sss_one (ss_ret (se_tup (sa_cons se_str sa_nil)))) sss_nil) (sss_one (ss_ret (se_tup (sa_cons se_str sa_nil)))))⟩)))⟩
theorem ok_Lsize (F : FunAt K mg "_law_size" s_Lsize ["_law_sizes_here", "_law_codes"]) : Cal P w K mg base 1 "_law_size" ["_law_sizes_here", "_law_codes"] sp_Lsize := by
  refine F.cal fun f fd F => ok_def (N := N_Lsize) (wb := w_Lsize) F sc_Lsize har_Lsize (by decide) (fun cdv A outer s0 H E hr => ?_) pure_Lsize
  have hu1 := hu_of hr
  have hu64 := hr.units
  have hu65 := hu65_of hr
  exact ⟨_, (sss_cons (ss_set (i := 2) sc_Lsize.nd rfl (Or.inl rfl) se_int) (sss_cons (ss_for PassesOwn.never rfl (si_list (se_var (pv 1))) (sg_name (i := 3) sc_Lsize.nd rfl (Or.inl rfl)) (sss_one (ss_if (st_cmp op_lt dLt_ok (se_var (pv 3)) se_int (nomark _)) (sss_one (ss_set (i := 2) sc_Lsize.nd rfl (Or.inl rfl) (se_op op_addA dAdd_ok (se_var (pv 2)) se_int))) (sss_one (ss_set (i := 2) sc_Lsize.nd rfl (Or.inl rfl) (se_op op_addA dAdd_ok (se_var (pv 2)) (se_ix (se_var (pv 0)) (se_op op_sub dSub_ok (se_var (pv 3)) se_int) (fun _ _ => rfl)))))))) (sss_one (ss_ret (se_var (pv 2))))))⟩
theorem ok_Ldue (F : FunAt K mg "_law_due" s_Ldue ["_law_asked", "_law_sizes_here", "_law_codes", "_law_unknown"]) (z_len : mg "len" = none) (c_Lsize : Cal P w K mg base 1 "_law_size" ["_law_sizes_here", "_law_codes"] sp_Lsize) : Cal P w K mg base 2 "_law_due" ["_law_asked", "_law_sizes_here", "_law_codes", "_law_unknown"] sp_Ldue := by
  obtain ⟨f_Lsize, fd_Lsize, G_Lsize, m_Lsize, k_Lsize, b_Lsize⟩ := c_Lsize
  refine F.cal fun f fd F => ok_def (N := N_Ldue) (wb := w_Ldue) F sc_Ldue har_Ldue (by decide) (fun cdv A outer s0 H E hr => ?_) pure_Ldue
  have hu1 := hu_of hr
  have hu64 := hr.units
  have hu65 := hu65_of hr
  exact ⟨_, (sss_cons (ss_if (st_cmp op_gt dGt_ok (se_callB call_lenA dLen_ok (by rfl) z_len (by decide +kernel) (sa_cons (se_var (pv 3)) sa_nil)) se_int (nomark _)) (sss_one (ss_ret (se_tup (sa_cons se_str (sa_cons (se_ix (se_var (pv 3)) se_int (fun _ _ => rfl)) sa_nil))))) sss_nil) (sss_cons (ss_set (i := 4) sc_Ldue.nd rfl (Or.inl rfl) (se_call G_Lsize (hr.mono (by omega)) (by rfl) m_Lsize k_Lsize b_Lsize (sa_cons (se_var (pv 1)) (sa_cons (se_var (pv 2)) sa_nil)))) (sss_cons (ss_if (SW.st (sw_and (st_cmp (op_neA hu64) dNe_ok (se_var (pv 0)) se_str (nomark _)) (sw_and1 (st_cmp op_gt dGt_ok (se_var (pv 4)) se_int (nomark _))))) (sss_one (ss_ret (se_tup (sa_cons se_str sa_nil)))) sss_nil) (sss_one (ss_ret (se_tup (sa_cons (se_var (pv 0)) (sa_cons (se_var (pv 4)) sa_nil))))))))⟩
theorem fn_law {f : Addr} {fd : FuncData} (F : Fun K "law" "law" s_law f fd) (z_len : mg "len" = none) (z_range : mg "range" = none) (z_list : mg "list" = none) (c_Ldigits : Cal P w K mg base 2 "_law_digits" ["_law_script", "_law_first", "_law_last"] sp_Ldigits) (c_Ldoubling : Cal P w K mg base 3 "_law_doubling" ["_law_box"] sp_Ldoubling) (c_Lsizes : Cal P w K mg base 1 "_law_sizes" ["_law_joins"] sp_Lsizes) (c_Ldrawn_codes : Cal P w K mg base 3 "_law_drawn_codes" ["_law_box", "_law_joins"] sp_Ldrawn_codes) (c_Ldraw : Cal P w K mg base 1 "_law_draw" ["_law_box", "_law_many"] sp_Ldraw) (c_Lsame : Cal P w K mg base 5 "_law_same" ["_law_actual", "_law_due_here"] (sp_Lsame 5)) (c_Ltold : Cal P w K mg base 6 "_law_told" ["_law_asked", "_law_joins", "_law_codes"] sp_Ltold) (c_Ldue : Cal P w K mg base 2 "_law_due" ["_law_asked", "_law_sizes_here", "_law_codes", "_law_unknown"] sp_Ldue) : FnOk P w K mg base CX0 7 f fd ["_law_script"] (spOf K sp_law) := by
  obtain ⟨f_Ldigits, fd_Ldigits, G_Ldigits, m_Ldigits, k_Ldigits, b_Ldigits⟩ := c_Ldigits
  obtain ⟨f_Ldoubling, fd_Ldoubling, G_Ldoubling, m_Ldoubling, k_Ldoubling, b_Ldoubling⟩ := c_Ldoubling
  obtain ⟨f_Lsizes, fd_Lsizes, G_Lsizes, m_Lsizes, k_Lsizes, b_Lsizes⟩ := c_Lsizes
  obtain ⟨f_Ldrawn_codes, fd_Ldrawn_codes, G_Ldrawn_codes, m_Ldrawn_codes, k_Ldrawn_codes, b_Ldrawn_codes⟩ := c_Ldrawn_codes
  obtain ⟨f_Ldraw, fd_Ldraw, G_Ldraw, m_Ldraw, k_Ldraw, b_Ldraw⟩ := c_Ldraw
  obtain ⟨f_Lsame, fd_Lsame, G_Lsame, m_Lsame, k_Lsame, b_Lsame⟩ := c_Lsame
  obtain ⟨f_Ltold, fd_Ltold, G_Ltold, m_Ltold, k_Ltold, b_Ltold⟩ := c_Ltold
  obtain ⟨f_Ldue, fd_Ldue, G_Ldue, m_Ldue, k_Ldue, b_Ldue⟩ := c_Ldue
  refine ok_def (N := N_law) (wb := w_law) F sc_law har_law (by decide) (fun cdv A outer s0 H E hr => ?_) pure_law
  have hu1 := hu_of hr
  have hu64 := hr.units
  have hu65 := hu65_of hr
  exact ⟨_, (sss_cons (ss_set (i := 1) sc_law.nd rfl (Or.inl rfl) (se_lst (sa_cons (se_call G_Ldigits (hr.mono (by omega)) (by rfl) m_Ldigits k_Ldigits b_Ldigits (sa_cons (se_var (pv 0)) (sa_cons se_int (sa_cons se_int sa_nil)))) (sa_cons se_int sa_nil)))) (sss_cons (ss_set (i := 2) sc_law.nd rfl (Or.inl rfl) (se_call G_Ldoubling (hr.mono (by omega)) (by rfl) m_Ldoubling k_Ldoubling b_Ldoubling (sa_cons (se_var (pv 1)) sa_nil))) (sss_fz 2 (sss_cons (ss_set (i := 3) sc_law.nd rfl (Or.inl rfl) (se_call G_Lsizes (hr.mono (by omega)) (by rfl) m_Lsizes k_Lsizes b_Lsizes (sa_cons (se_var (pv 2)) sa_nil))) (sss_fz 3 (sss_cons (ss_set (i := 4) sc_law.nd rfl (Or.inl rfl) (se_call G_Ldrawn_codes (hr.mono (by omega)) (by rfl) m_Ldrawn_codes k_Ldrawn_codes b_Ldrawn_codes (sa_cons (se_var (pv 1)) (sa_cons (se_var (pv 2)) sa_nil)))) (sss_cons (ss_set (i := 5) sc_law.nd rfl (Or.inr rfl) (se_lst (sa_cons se_int (sa_cons se_int (sa_cons se_int (sa_cons se_int (sa_cons se_int (sa_cons se_int (sa_cons se_int (sa_cons se_int (sa_cons (se_op op_addA dAdd_ok se_int (se_callB call_lenA dLen_ok (by rfl) z_len (by decide +kernel) (sa_cons (se_var (pv 2)) sa_nil))) (sa_cons (se_op op_addA dAdd_ok (se_op op_addA dAdd_ok se_int (se_callB call_lenA dLen_ok (by rfl) z_len (by decide +kernel) (sa_cons (se_var (pv 2)) sa_nil))) (se_call G_Ldraw (hr.mono (by omega)) (by rfl) m_Ldraw k_Ldraw b_Ldraw (sa_cons (se_var (pv 1)) (sa_cons se_int sa_nil)))) sa_nil)))))))))))) (sss_cons (ss_if (st_cmp (op_eqA hu64) dEq_ok (se_call G_Ldraw (hr.mono (by omega)) (by rfl) m_Ldraw k_Ldraw b_Ldraw (sa_cons (se_var (pv 1)) (sa_cons se_int sa_nil))) se_int (nomark _)) (sss_one (ss_for PassesOwn.never rfl (si_range1 (by rfl) z_range (sa_cons (se_op op_addA dAdd_ok se_int (se_call G_Ldraw (hr.mono (by omega)) (by rfl) m_Ldraw k_Ldraw b_Ldraw (sa_cons (se_var (pv 1)) (sa_cons se_int sa_nil)))) sa_nil)) (sg_name (i := 6) sc_law.nd rfl (Or.inl rfl)) (sss_one (ss_insert (pv 4) (se_call G_Ldraw (hr.mono (by omega)) (by rfl) m_Ldraw k_Ldraw b_Ldraw (sa_cons (se_var (pv 1)) (sa_cons (se_op op_addA dAdd_ok (se_callB call_lenA dLen_ok (by rfl) z_len (by decide +kernel) (sa_cons (se_var (pv 4)) sa_nil)) se_int) sa_nil))) (se_ix (se_var (pv 5)) (se_call G_Ldraw (hr.mono (by omega)) (by rfl) m_Ldraw k_Ldraw b_Ldraw (sa_cons (se_var (pv 1)) (sa_cons se_int sa_nil))) (fun _ _ => rfl)))))) sss_nil) (sss_fz 4 (sss_cons (ss_setLc (i := 7) (own := [("_law_code", 10)]) rfl sc_law.nd rfl rfl (sw_true rfl rfl rfl (by decide +kernel)) (si_list (se_var (pv 4))) (blkOk_by (own := [("_law_code", 10)]) (N := N_law) (sc := defScope s_law) (by decide +kernel)) (by intro _ _ _ _ _; exact ⟨_, (sg_name (i := 10) sc_law.nd rfl (Or.inl rfl))⟩) (by decide) (by intro _ _ _ _ _; exact ⟨_, (sts_one (st_cmp op_inA dIn_ok (se_var (pv 10)) (se_var (pv 5)) (by rfl)))⟩) (by intro _ _ _ _ _; exact ⟨_, (se_var (pv 10))⟩)) (sss_fz 7 (sss_cons (ss_set (i := 8) sc_law.nd rfl (Or.inl rfl) (se_lst (sa_cons (se_callTy call_list_of dList_ok (by rfl) z_list (by decide +kernel) (sa_cons (se_var (pv 2)) sa_nil)) (sa_cons (se_callTy call_list_of dList_ok (by rfl) z_list (by decide +kernel) (sa_cons (se_var (pv 4)) sa_nil)) sa_nil)))) (sss_cons (ss_for PassesOwn.never rfl (si_list (se_lst (sa_cons se_str (sa_cons se_str sa_nil)))) (sg_name (i := 9) sc_law.nd rfl (Or.inl rfl)) (sss_one (ss_if (st_not (st_val (se_call G_Lsame (hr.mono (by omega)) (by rfl) m_Lsame k_Lsame b_Lsame (sa_cons (se_call G_Ltold (hr.mono (by omega)) (by rfl) m_Ltold k_Ltold b_Ltold (sa_cons (se_var (pv 9)) (sa_cons (se_ix (se_var (pv 8)) se_int (fun _ _ => rfl)) (sa_cons (se_ix (se_var (pv 8)) se_int (fun _ _ => rfl)) sa_nil)))) (sa_cons (se_call G_Ldue (hr.mono (by omega)) (by rfl) m_Ldue k_Ldue b_Ldue (sa_cons (se_var (pv 9)) (sa_cons (se_var (pv 3)) (sa_cons (se_var (pv 4)) (sa_cons (se_var (pv 7)) sa_nil))))) sa_nil))))) (sss_one (ss_ret se_bl)) sss_nil))) (sss_cons (ss_for PassesOwn.never rfl (si_list (se_slice (se_var (pv 4)) so_none (so_some se_int))) (sg_name (i := 10) sc_law.nd rfl (Or.inl rfl)) (sss_cons (ss_set (i := 11) sc_law.nd rfl (Or.inl rfl) (se_lst sa_nil)) (sss_cons (ss_if (st_cmp op_inA dIn_ok (se_var (pv 10)) (se_var (pv 5)) (by rfl)) (sss_one (ss_append (pv 11) (se_var (pv 10)))) sss_nil) (sss_fz 11 (sss_one (ss_if (st_not (st_val (se_call G_Lsame (hr.mono (by omega)) (by rfl) m_Lsame k_Lsame b_Lsame (sa_cons (se_call G_Ltold (hr.mono (by omega)) (by rfl) m_Ltold k_Ltold b_Ltold (sa_cons se_str (sa_cons (se_ix (se_var (pv 8)) se_int (fun _ _ => rfl)) (sa_cons (se_lst (sa_cons (se_var (pv 10)) sa_nil)) sa_nil)))) (sa_cons (se_call G_Ldue (hr.mono (by omega)) (by rfl) m_Ldue k_Ldue b_Ldue (sa_cons se_str (sa_cons (se_var (pv 3)) (sa_cons (se_lst (sa_cons (se_var (pv 10)) sa_nil)) (sa_cons (se_var (pv 11)) sa_nil))))) sa_nil))))) (sss_one (ss_ret se_bl)) sss_nil)))))) (sss_one (ss_ret (se_and (se_call G_Lsame (hr.mono (by omega)) (by rfl) m_Lsame k_Lsame b_Lsame (sa_cons (se_ix (se_var (pv 8)) se_int (fun _ _ => rfl)) (sa_cons (se_var (pv 2)) sa_nil))) (se_one (se_call G_Lsame (hr.mono (by omega)) (by rfl) m_Lsame k_Lsame b_Lsame (sa_cons (se_ix (se_var (pv 8)) se_int (fun _ _ => rfl)) (sa_cons (se_var (pv 4)) sa_nil)))))))))))))))))))))⟩
end
structure Tops (P : Program) (K : PySem.W.Frag) (mg : Str → Option Value) : Prop where
  f_Ldraw : FunAt K mg "_law_draw" s_Ldraw ["_law_box", "_law_many"]
  f_Lany : FunAt K mg "_law_any" s_Lany ["_law_box"]
  f_Ldoubling : FunAt K mg "_law_doubling" s_Ldoubling ["_law_box"]
  f_Lsizes : FunAt K mg "_law_sizes" s_Lsizes ["_law_joins"]
  f_Ldrawn_codes : FunAt K mg "_law_drawn_codes" s_Ldrawn_codes ["_law_box", "_law_joins"]
  f_Lcell : FunAt K mg "_law_cell" s_Lcell ["_law_script", "_law_k"]
  f_Ldigits : FunAt K mg "_law_digits" s_Ldigits ["_law_script", "_law_first", "_law_last"]
  f_Lsame : FunAt K mg "_law_same" s_Lsame ["_law_actual", "_law_due_here"]
  f_u_char_table : FunAt K mg "_char_table" s_u_char_table []
  f_u_text_of : FunAt K mg "_text_of" s_u_text_of ["joins", "codes"]
  f_u_lengths : FunAt K mg "_lengths" s_u_lengths ["joins"]
  f_text_length : FunAt K mg "text_length" s_text_length ["joins", "codes"]
  f_u_bounded_text : FunAt K mg "_bounded_text" s_u_bounded_text ["joins", "codes"]
  f_read_codes : FunAt K mg "read_codes" s_read_codes ["joins", "codes"]
  f_code_text : FunAt K mg "code_text" s_code_text ["joins", "code"]
  f_Ltold : FunAt K mg "_law_told" s_Ltold ["_law_asked", "_law_joins", "_law_codes"]
  f_Lsize : FunAt K mg "_law_size" s_Lsize ["_law_sizes_here", "_law_codes"]
  f_Ldue : FunAt K mg "_law_due" s_Ldue ["_law_asked", "_law_sizes_here", "_law_codes", "_law_unknown"]
  z_len : mg "len" = none
  z_int : mg "int" = none
  z_ord : mg "ord" = none
  z_range : mg "range" = none
  z_min : mg "min" = none
  z_tuple : mg "tuple" = none
  z_isinstance : mg "isinstance" = none
  z_list : mg "list" = none
  z_bool : mg "bool" = none
  z_str : mg "str" = none
  z_reversed : mg "reversed" = none
  z_sum : mg "sum" = none
  z_ValueError : mg "ValueError" = none
  g_CHARS : ∃ t, mg "CHARS" = some (.str "\n !\"#$&'()*+,-./0123456789:;<=>?@ABCDEFGHIJKLMNOPQRSTUVWXYZ[\\]^_`abcdefghijklmnopqrstuvwxyz{|}~" t)
  g_FIRST_JOIN : ∃ t, mg "FIRST_JOIN" = some (.int 200 t)
  g_TEXT_MOST : ∃ t, mg "TEXT_MOST" = some (.int 100000 t)
  gm : ∀ x C, NmC K x C → mg x.s = some (.ref C)
  kx : ExK K
  e_CorpusError : ∃ C, ExP K .CorpusError C
  e_TooLarge : ∃ C, ExN K .TooLarge C
  e_InvalidBytes : ∃ C, ExP K .InvalidBytes C
  e_UnknownCode : ∃ C, ExI K P .UnknownCode "UnknownCode.__init__" s_UnknownCode_i ["code"] C
  s_CorpusError : ∀ x ∈ cl, SubF K x .CorpusError (exSub x .CorpusError)
  s_TooLarge : ∀ x ∈ cl, SubF K x .TooLarge (exSub x .TooLarge)
  s_InvalidBytes : ∀ x ∈ cl, SubF K x .InvalidBytes (exSub x .InvalidBytes)
  s_UnknownCode : ∀ x ∈ cl, SubF K x .UnknownCode (exSub x .UnknownCode)
  sv : ∀ x ∈ cl, SubV K x
theorem law_ok {P : Program} {w : World} {K : PySem.W.Frag} {mg : Str → Option Value} {base : Heap} (T : Tops P K mg) {f : Addr} {fd : FuncData} (F : Fun K "law" "law" s_law f fd) : FnOk P w K mg base CX0 7 f fd ["_law_script"] (spOf K sp_law) := by
  obtain ⟨t_CHARS, g_CHARS⟩ := T.g_CHARS
  obtain ⟨t_FIRST_JOIN, g_FIRST_JOIN⟩ := T.g_FIRST_JOIN
  obtain ⟨t_TEXT_MOST, g_TEXT_MOST⟩ := T.g_TEXT_MOST
  obtain ⟨C_CorpusError, p_CorpusError⟩ := T.e_CorpusError
  obtain ⟨C_TooLarge, n_TooLarge⟩ := T.e_TooLarge
  have p_TooLarge := n_TooLarge.p
  obtain ⟨C_InvalidBytes, p_InvalidBytes⟩ := T.e_InvalidBytes
  obtain ⟨C_UnknownCode, fi_UnknownCode, fd_UnknownCode, m_UnknownCode⟩ := ex_UnknownCode (w := w) (mg := mg) (base := base) T.e_UnknownCode
  have p_UnknownCode := m_UnknownCode.p
  have hp : ∀ x ∈ cl, ∃ C, ExP K x C := (List.forall_mem_cons.mpr ⟨⟨_, p_UnknownCode⟩, (List.forall_mem_cons.mpr ⟨⟨_, p_TooLarge⟩, (fun _ h => by cases h)⟩)⟩)
  have CL : Cls P w K mg base C_CorpusError C_TooLarge C_InvalidBytes C_UnknownCode fi_UnknownCode fd_UnknownCode := ⟨T.gm .CorpusError _ p_CorpusError.nm, kitOk_of T.kx p_CorpusError hp T.s_CorpusError, T.gm .TooLarge _ p_TooLarge.nm, n_TooLarge, exmOk_of p_TooLarge T.s_TooLarge, kitOk_of T.kx p_TooLarge hp T.s_TooLarge, T.gm .InvalidBytes _ p_InvalidBytes.nm, kitOk_of T.kx p_InvalidBytes hp T.s_InvalidBytes, T.gm .UnknownCode _ p_UnknownCode.nm, m_UnknownCode, p_UnknownCode.nm, p_UnknownCode.xf, m_UnknownCode.no "code" (by simp), exmOk_of p_UnknownCode T.s_UnknownCode, kitV_of T.kx hp T.sv⟩
  have c_Ldraw := ok_Ldraw (P := P) (w := w) (base := base) T.f_Ldraw T.z_len T.z_int
  have c_Lany := ok_Lany (P := P) (w := w) (base := base) T.f_Lany c_Ldraw
  have c_Ldoubling := ok_Ldoubling (P := P) (w := w) (base := base) T.f_Ldoubling T.z_ord T.z_range c_Lany c_Ldraw
  have c_Lsizes := ok_Lsizes (P := P) (w := w) (base := base) T.f_Lsizes 
  have c_Ldrawn_codes := ok_Ldrawn_codes (P := P) (w := w) (base := base) T.f_Ldrawn_codes T.z_range T.z_ord T.z_len T.z_min c_Ldraw c_Lany
  have c_Lcell := ok_Lcell (P := P) (w := w) (base := base) T.f_Lcell T.z_len
  have c_Ldigits := ok_Ldigits (P := P) (w := w) (base := base) T.f_Ldigits T.z_range T.z_int c_Lcell
  have c_Lsame : Cal P w K mg base 5 "_law_same" ["_law_actual", "_law_due_here"] (sp_Lsame 5) := ok_Lsame (P := P) (w := w) (base := base) T.f_Lsame T.z_tuple T.z_isinstance T.z_list T.z_len T.z_range T.z_bool T.z_str T.z_int 5
  have c_u_char_table := ok_u_char_table (P := P) (w := w) (base := base) T.f_u_char_table T.z_ord g_CHARS
  have c_u_text_of := ok_u_text_of (P := P) (w := w) (base := base) T.f_u_text_of T.z_reversed T.z_len g_FIRST_JOIN c_u_char_table
  have c_u_lengths := ok_u_lengths (P := P) (w := w) (base := base) T.f_u_lengths T.z_ord T.z_len T.z_range g_CHARS g_FIRST_JOIN
  have c_text_length := ok_text_length (P := P) (w := w) (base := base) T.f_text_length CL c_u_lengths
  have c_u_bounded_text := ok_u_bounded_text (P := P) (w := w) (base := base) T.f_u_bounded_text g_TEXT_MOST CL c_text_length c_u_text_of
  have c_read_codes := ok_read_codes (P := P) (w := w) (base := base) T.f_read_codes c_u_bounded_text
  have c_code_text := ok_code_text (P := P) (w := w) (base := base) T.f_code_text c_u_bounded_text
  have c_Ltold := ok_Ltold (P := P) (w := w) (base := base) T.f_Ltold T.z_len T.z_sum T.z_isinstance T.z_ValueError CL c_text_length c_code_text c_read_codes
  have c_Lsize := ok_Lsize (P := P) (w := w) (base := base) T.f_Lsize 
  have c_Ldue := ok_Ldue (P := P) (w := w) (base := base) T.f_Ldue T.z_len c_Lsize
  exact fn_law (P := P) (w := w) (base := base) F T.z_len T.z_range T.z_list c_Ldigits c_Ldoubling c_Lsizes c_Ldrawn_codes c_Ldraw c_Lsame c_Ltold c_Ldue
theorem all_mk {l : PySem.W.OpenLaw} {w : World} {K : PySem.W.Frag} {h : Heap} {mg : Str → Option Value} {fa : Addr} (X : K.In h) (G : h.Ns mainGlobals mg) (hfa : mg "law" = some (.ref fa))
    {f0 : Addr} {od0 an0 : Option Addr} {sl0 : Array (Option Value)} {oc0 kV0 dc0 pm0 cd0 ct0 : Value}
    (a0 : PySem.W.nsIn K mainGlobals "_law_draw" = some (some (.ref f0))) (l0 : K.lookup f0 = some ⟨oc0, od0, .func (PySem.W.fnOf "_law_draw" "_law_draw" (defArgs s_Ldraw) (defBody s_Ldraw) (defScope s_Ldraw) .none kV0 dc0 pm0 an0 cd0 ct0), sl0⟩) (e0 : PySem.W.codeIn K cd0 "_law_draw" = true) (k0 : PySem.W.keepIn K (.ref f0) = true)
    {f1 : Addr} {od1 an1 : Option Addr} {sl1 : Array (Option Value)} {oc1 kV1 dc1 pm1 cd1 ct1 : Value}
    (a1 : PySem.W.nsIn K mainGlobals "_law_any" = some (some (.ref f1))) (l1 : K.lookup f1 = some ⟨oc1, od1, .func (PySem.W.fnOf "_law_any" "_law_any" (defArgs s_Lany) (defBody s_Lany) (defScope s_Lany) .none kV1 dc1 pm1 an1 cd1 ct1), sl1⟩) (e1 : PySem.W.codeIn K cd1 "_law_any" = true) (k1 : PySem.W.keepIn K (.ref f1) = true)
    {f2 : Addr} {od2 an2 : Option Addr} {sl2 : Array (Option Value)} {oc2 kV2 dc2 pm2 cd2 ct2 : Value}
    (a2 : PySem.W.nsIn K mainGlobals "_law_doubling" = some (some (.ref f2))) (l2 : K.lookup f2 = some ⟨oc2, od2, .func (PySem.W.fnOf "_law_doubling" "_law_doubling" (defArgs s_Ldoubling) (defBody s_Ldoubling) (defScope s_Ldoubling) .none kV2 dc2 pm2 an2 cd2 ct2), sl2⟩) (e2 : PySem.W.codeIn K cd2 "_law_doubling" = true) (k2 : PySem.W.keepIn K (.ref f2) = true)
    {f3 : Addr} {od3 an3 : Option Addr} {sl3 : Array (Option Value)} {oc3 kV3 dc3 pm3 cd3 ct3 : Value}
    (a3 : PySem.W.nsIn K mainGlobals "_law_sizes" = some (some (.ref f3))) (l3 : K.lookup f3 = some ⟨oc3, od3, .func (PySem.W.fnOf "_law_sizes" "_law_sizes" (defArgs s_Lsizes) (defBody s_Lsizes) (defScope s_Lsizes) .none kV3 dc3 pm3 an3 cd3 ct3), sl3⟩) (e3 : PySem.W.codeIn K cd3 "_law_sizes" = true) (k3 : PySem.W.keepIn K (.ref f3) = true)
    {f4 : Addr} {od4 an4 : Option Addr} {sl4 : Array (Option Value)} {oc4 kV4 dc4 pm4 cd4 ct4 : Value}
    (a4 : PySem.W.nsIn K mainGlobals "_law_drawn_codes" = some (some (.ref f4))) (l4 : K.lookup f4 = some ⟨oc4, od4, .func (PySem.W.fnOf "_law_drawn_codes" "_law_drawn_codes" (defArgs s_Ldrawn_codes) (defBody s_Ldrawn_codes) (defScope s_Ldrawn_codes) .none kV4 dc4 pm4 an4 cd4 ct4), sl4⟩) (e4 : PySem.W.codeIn K cd4 "_law_drawn_codes" = true) (k4 : PySem.W.keepIn K (.ref f4) = true)
    {f5 : Addr} {od5 an5 : Option Addr} {sl5 : Array (Option Value)} {oc5 kV5 dc5 pm5 cd5 ct5 : Value}
    (a5 : PySem.W.nsIn K mainGlobals "_law_cell" = some (some (.ref f5))) (l5 : K.lookup f5 = some ⟨oc5, od5, .func (PySem.W.fnOf "_law_cell" "_law_cell" (defArgs s_Lcell) (defBody s_Lcell) (defScope s_Lcell) .none kV5 dc5 pm5 an5 cd5 ct5), sl5⟩) (e5 : PySem.W.codeIn K cd5 "_law_cell" = true) (k5 : PySem.W.keepIn K (.ref f5) = true)
    {f6 : Addr} {od6 an6 : Option Addr} {sl6 : Array (Option Value)} {oc6 kV6 dc6 pm6 cd6 ct6 : Value}
    (a6 : PySem.W.nsIn K mainGlobals "_law_digits" = some (some (.ref f6))) (l6 : K.lookup f6 = some ⟨oc6, od6, .func (PySem.W.fnOf "_law_digits" "_law_digits" (defArgs s_Ldigits) (defBody s_Ldigits) (defScope s_Ldigits) .none kV6 dc6 pm6 an6 cd6 ct6), sl6⟩) (e6 : PySem.W.codeIn K cd6 "_law_digits" = true) (k6 : PySem.W.keepIn K (.ref f6) = true)
    {f7 : Addr} {od7 an7 : Option Addr} {sl7 : Array (Option Value)} {oc7 kV7 dc7 pm7 cd7 ct7 : Value}
    (a7 : PySem.W.nsIn K mainGlobals "_law_same" = some (some (.ref f7))) (l7 : K.lookup f7 = some ⟨oc7, od7, .func (PySem.W.fnOf "_law_same" "_law_same" (defArgs s_Lsame) (defBody s_Lsame) (defScope s_Lsame) .none kV7 dc7 pm7 an7 cd7 ct7), sl7⟩) (e7 : PySem.W.codeIn K cd7 "_law_same" = true) (k7 : PySem.W.keepIn K (.ref f7) = true)
    {f8 : Addr} {od8 an8 : Option Addr} {sl8 : Array (Option Value)} {oc8 kV8 dc8 pm8 cd8 ct8 : Value}
    (a8 : PySem.W.nsIn K mainGlobals "_char_table" = some (some (.ref f8))) (l8 : K.lookup f8 = some ⟨oc8, od8, .func (PySem.W.fnOf "_char_table" "_char_table" (defArgs s_u_char_table) (defBody s_u_char_table) (defScope s_u_char_table) .none kV8 dc8 pm8 an8 cd8 ct8), sl8⟩) (e8 : PySem.W.codeIn K cd8 "_char_table" = true) (k8 : PySem.W.keepIn K (.ref f8) = true)
    {f9 : Addr} {od9 an9 : Option Addr} {sl9 : Array (Option Value)} {oc9 kV9 dc9 pm9 cd9 ct9 : Value}
    (a9 : PySem.W.nsIn K mainGlobals "_text_of" = some (some (.ref f9))) (l9 : K.lookup f9 = some ⟨oc9, od9, .func (PySem.W.fnOf "_text_of" "_text_of" (defArgs s_u_text_of) (defBody s_u_text_of) (defScope s_u_text_of) .none kV9 dc9 pm9 an9 cd9 ct9), sl9⟩) (e9 : PySem.W.codeIn K cd9 "_text_of" = true) (k9 : PySem.W.keepIn K (.ref f9) = true)
    {f10 : Addr} {od10 an10 : Option Addr} {sl10 : Array (Option Value)} {oc10 kV10 dc10 pm10 cd10 ct10 : Value}
    (a10 : PySem.W.nsIn K mainGlobals "_lengths" = some (some (.ref f10))) (l10 : K.lookup f10 = some ⟨oc10, od10, .func (PySem.W.fnOf "_lengths" "_lengths" (defArgs s_u_lengths) (defBody s_u_lengths) (defScope s_u_lengths) .none kV10 dc10 pm10 an10 cd10 ct10), sl10⟩) (e10 : PySem.W.codeIn K cd10 "_lengths" = true) (k10 : PySem.W.keepIn K (.ref f10) = true)
    {f11 : Addr} {od11 an11 : Option Addr} {sl11 : Array (Option Value)} {oc11 kV11 dc11 pm11 cd11 ct11 : Value}
    (a11 : PySem.W.nsIn K mainGlobals "text_length" = some (some (.ref f11))) (l11 : K.lookup f11 = some ⟨oc11, od11, .func (PySem.W.fnOf "text_length" "text_length" (defArgs s_text_length) (defBody s_text_length) (defScope s_text_length) .none kV11 dc11 pm11 an11 cd11 ct11), sl11⟩) (e11 : PySem.W.codeIn K cd11 "text_length" = true) (k11 : PySem.W.keepIn K (.ref f11) = true)
    {f12 : Addr} {od12 an12 : Option Addr} {sl12 : Array (Option Value)} {oc12 kV12 dc12 pm12 cd12 ct12 : Value}
    (a12 : PySem.W.nsIn K mainGlobals "_bounded_text" = some (some (.ref f12))) (l12 : K.lookup f12 = some ⟨oc12, od12, .func (PySem.W.fnOf "_bounded_text" "_bounded_text" (defArgs s_u_bounded_text) (defBody s_u_bounded_text) (defScope s_u_bounded_text) .none kV12 dc12 pm12 an12 cd12 ct12), sl12⟩) (e12 : PySem.W.codeIn K cd12 "_bounded_text" = true) (k12 : PySem.W.keepIn K (.ref f12) = true)
    {f13 : Addr} {od13 an13 : Option Addr} {sl13 : Array (Option Value)} {oc13 kV13 dc13 pm13 cd13 ct13 : Value}
    (a13 : PySem.W.nsIn K mainGlobals "read_codes" = some (some (.ref f13))) (l13 : K.lookup f13 = some ⟨oc13, od13, .func (PySem.W.fnOf "read_codes" "read_codes" (defArgs s_read_codes) (defBody s_read_codes) (defScope s_read_codes) .none kV13 dc13 pm13 an13 cd13 ct13), sl13⟩) (e13 : PySem.W.codeIn K cd13 "read_codes" = true) (k13 : PySem.W.keepIn K (.ref f13) = true)
    {f14 : Addr} {od14 an14 : Option Addr} {sl14 : Array (Option Value)} {oc14 kV14 dc14 pm14 cd14 ct14 : Value}
    (a14 : PySem.W.nsIn K mainGlobals "code_text" = some (some (.ref f14))) (l14 : K.lookup f14 = some ⟨oc14, od14, .func (PySem.W.fnOf "code_text" "code_text" (defArgs s_code_text) (defBody s_code_text) (defScope s_code_text) .none kV14 dc14 pm14 an14 cd14 ct14), sl14⟩) (e14 : PySem.W.codeIn K cd14 "code_text" = true) (k14 : PySem.W.keepIn K (.ref f14) = true)
    {f15 : Addr} {od15 an15 : Option Addr} {sl15 : Array (Option Value)} {oc15 kV15 dc15 pm15 cd15 ct15 : Value}
    (a15 : PySem.W.nsIn K mainGlobals "_law_told" = some (some (.ref f15))) (l15 : K.lookup f15 = some ⟨oc15, od15, .func (PySem.W.fnOf "_law_told" "_law_told" (defArgs s_Ltold) (defBody s_Ltold) (defScope s_Ltold) .none kV15 dc15 pm15 an15 cd15 ct15), sl15⟩) (e15 : PySem.W.codeIn K cd15 "_law_told" = true) (k15 : PySem.W.keepIn K (.ref f15) = true)
    {f16 : Addr} {od16 an16 : Option Addr} {sl16 : Array (Option Value)} {oc16 kV16 dc16 pm16 cd16 ct16 : Value}
    (a16 : PySem.W.nsIn K mainGlobals "_law_size" = some (some (.ref f16))) (l16 : K.lookup f16 = some ⟨oc16, od16, .func (PySem.W.fnOf "_law_size" "_law_size" (defArgs s_Lsize) (defBody s_Lsize) (defScope s_Lsize) .none kV16 dc16 pm16 an16 cd16 ct16), sl16⟩) (e16 : PySem.W.codeIn K cd16 "_law_size" = true) (k16 : PySem.W.keepIn K (.ref f16) = true)
    {f17 : Addr} {od17 an17 : Option Addr} {sl17 : Array (Option Value)} {oc17 kV17 dc17 pm17 cd17 ct17 : Value}
    (a17 : PySem.W.nsIn K mainGlobals "_law_due" = some (some (.ref f17))) (l17 : K.lookup f17 = some ⟨oc17, od17, .func (PySem.W.fnOf "_law_due" "_law_due" (defArgs s_Ldue) (defBody s_Ldue) (defScope s_Ldue) .none kV17 dc17 pm17 an17 cd17 ct17), sl17⟩) (e17 : PySem.W.codeIn K cd17 "_law_due" = true) (k17 : PySem.W.keepIn K (.ref f17) = true)
    {f18 : Addr} {od18 an18 : Option Addr} {sl18 : Array (Option Value)} {oc18 kV18 dc18 pm18 cd18 ct18 : Value}
    (a18 : PySem.W.nsIn K mainGlobals "law" = some (some (.ref f18))) (l18 : K.lookup f18 = some ⟨oc18, od18, .func (PySem.W.fnOf "law" "law" (defArgs s_law) (defBody s_law) (defScope s_law) .none kV18 dc18 pm18 an18 cd18 ct18), sl18⟩) (e18 : PySem.W.codeIn K cd18 "law" = true) (k18 : PySem.W.keepIn K (.ref f18) = true)
    (z_len : PySem.W.nsIn K mainGlobals "len" = some none)
    (z_int : PySem.W.nsIn K mainGlobals "int" = some none)
    (z_ord : PySem.W.nsIn K mainGlobals "ord" = some none)
    (z_range : PySem.W.nsIn K mainGlobals "range" = some none)
    (z_min : PySem.W.nsIn K mainGlobals "min" = some none)
    (z_tuple : PySem.W.nsIn K mainGlobals "tuple" = some none)
    (z_isinstance : PySem.W.nsIn K mainGlobals "isinstance" = some none)
    (z_list : PySem.W.nsIn K mainGlobals "list" = some none)
    (z_bool : PySem.W.nsIn K mainGlobals "bool" = some none)
    (z_str : PySem.W.nsIn K mainGlobals "str" = some none)
    (z_reversed : PySem.W.nsIn K mainGlobals "reversed" = some none)
    (z_sum : PySem.W.nsIn K mainGlobals "sum" = some none)
    (z_ValueError : PySem.W.nsIn K mainGlobals "ValueError" = some none)
    {t_CHARS : Tok} (g_CHARS : PySem.W.nsIn K mainGlobals "CHARS" = some (some (.str "\n !\"#$&'()*+,-./0123456789:;<=>?@ABCDEFGHIJKLMNOPQRSTUVWXYZ[\\]^_`abcdefghijklmnopqrstuvwxyz{|}~" t_CHARS)))
    {t_FIRST_JOIN : Tok} (g_FIRST_JOIN : PySem.W.nsIn K mainGlobals "FIRST_JOIN" = some (some (.int 200 t_FIRST_JOIN)))
    {t_TEXT_MOST : Tok} (g_TEXT_MOST : PySem.W.nsIn K mainGlobals "TEXT_MOST" = some (some (.int 100000 t_TEXT_MOST)))
    (kx : ExK K)
    (e_CorpusError : ∃ C, ExP K .CorpusError C)
    (e_TooLarge : ∃ C, ExN K .TooLarge C)
    (e_InvalidBytes : ∃ C, ExP K .InvalidBytes C)
    (e_UnknownCode : ∃ C, ExI K l.prog .UnknownCode "UnknownCode.__init__" s_UnknownCode_i ["code"] C)
    (s_UnknownCode_CorpusError : SubF K .UnknownCode .CorpusError (exSub .UnknownCode .CorpusError))
    (s_TooLarge_CorpusError : SubF K .TooLarge .CorpusError (exSub .TooLarge .CorpusError))
    (s_UnknownCode_TooLarge : SubF K .UnknownCode .TooLarge (exSub .UnknownCode .TooLarge))
    (s_TooLarge_TooLarge : SubF K .TooLarge .TooLarge (exSub .TooLarge .TooLarge))
    (s_UnknownCode_InvalidBytes : SubF K .UnknownCode .InvalidBytes (exSub .UnknownCode .InvalidBytes))
    (s_TooLarge_InvalidBytes : SubF K .TooLarge .InvalidBytes (exSub .TooLarge .InvalidBytes))
    (s_UnknownCode_UnknownCode : SubF K .UnknownCode .UnknownCode (exSub .UnknownCode .UnknownCode))
    (s_TooLarge_UnknownCode : SubF K .TooLarge .UnknownCode (exSub .TooLarge .UnknownCode))
    (sv_UnknownCode : SubV K .UnknownCode)
    (sv_TooLarge : SubV K .TooLarge) :
    ∃ fd : FuncData, (∀ (s : Shared) (v : Value), BindsTo s fd ⟨[v], []⟩ [("_law_script", v)]) ∧ ∀ base : Heap, K.In base → base.Ns mainGlobals mg → FnOk l.prog w K mg base CX0 7 fa fd ["_law_script"] (spOf K sp_law) := by
  have e := hfa.symm.trans (PySem.W.mg_of X G a18)
  cases e
  have F0 := fun_mk (st := s_Ldraw) l0 e0 k0
  have b0 := F0.binds (ps := ["_law_box", "_law_many"]) fun _ _ _ _ _ _ us hl => match us, hl with | [_, _], _ => rfl
  have F1 := fun_mk (st := s_Lany) l1 e1 k1
  have b1 := F1.binds (ps := ["_law_box"]) fun _ _ _ _ _ _ us hl => match us, hl with | [_], _ => rfl
  have F2 := fun_mk (st := s_Ldoubling) l2 e2 k2
  have b2 := F2.binds (ps := ["_law_box"]) fun _ _ _ _ _ _ us hl => match us, hl with | [_], _ => rfl
  have F3 := fun_mk (st := s_Lsizes) l3 e3 k3
  have b3 := F3.binds (ps := ["_law_joins"]) fun _ _ _ _ _ _ us hl => match us, hl with | [_], _ => rfl
  have F4 := fun_mk (st := s_Ldrawn_codes) l4 e4 k4
  have b4 := F4.binds (ps := ["_law_box", "_law_joins"]) fun _ _ _ _ _ _ us hl => match us, hl with | [_, _], _ => rfl
  have F5 := fun_mk (st := s_Lcell) l5 e5 k5
  have b5 := F5.binds (ps := ["_law_script", "_law_k"]) fun _ _ _ _ _ _ us hl => match us, hl with | [_, _], _ => rfl
  have F6 := fun_mk (st := s_Ldigits) l6 e6 k6
  have b6 := F6.binds (ps := ["_law_script", "_law_first", "_law_last"]) fun _ _ _ _ _ _ us hl => match us, hl with | [_, _, _], _ => rfl
  have F7 := fun_mk (st := s_Lsame) l7 e7 k7
  have b7 := F7.binds (ps := ["_law_actual", "_law_due_here"]) fun _ _ _ _ _ _ us hl => match us, hl with | [_, _], _ => rfl
  have F8 := fun_mk (st := s_u_char_table) l8 e8 k8
  have b8 := F8.binds (ps := []) fun _ _ _ _ _ _ us hl => match us, hl with | [], _ => rfl
  have F9 := fun_mk (st := s_u_text_of) l9 e9 k9
  have b9 := F9.binds (ps := ["joins", "codes"]) fun _ _ _ _ _ _ us hl => match us, hl with | [_, _], _ => rfl
  have F10 := fun_mk (st := s_u_lengths) l10 e10 k10
  have b10 := F10.binds (ps := ["joins"]) fun _ _ _ _ _ _ us hl => match us, hl with | [_], _ => rfl
  have F11 := fun_mk (st := s_text_length) l11 e11 k11
  have b11 := F11.binds (ps := ["joins", "codes"]) fun _ _ _ _ _ _ us hl => match us, hl with | [_, _], _ => rfl
  have F12 := fun_mk (st := s_u_bounded_text) l12 e12 k12
  have b12 := F12.binds (ps := ["joins", "codes"]) fun _ _ _ _ _ _ us hl => match us, hl with | [_, _], _ => rfl
  have F13 := fun_mk (st := s_read_codes) l13 e13 k13
  have b13 := F13.binds (ps := ["joins", "codes"]) fun _ _ _ _ _ _ us hl => match us, hl with | [_, _], _ => rfl
  have F14 := fun_mk (st := s_code_text) l14 e14 k14
  have b14 := F14.binds (ps := ["joins", "code"]) fun _ _ _ _ _ _ us hl => match us, hl with | [_, _], _ => rfl
  have F15 := fun_mk (st := s_Ltold) l15 e15 k15
  have b15 := F15.binds (ps := ["_law_asked", "_law_joins", "_law_codes"]) fun _ _ _ _ _ _ us hl => match us, hl with | [_, _, _], _ => rfl
  have F16 := fun_mk (st := s_Lsize) l16 e16 k16
  have b16 := F16.binds (ps := ["_law_sizes_here", "_law_codes"]) fun _ _ _ _ _ _ us hl => match us, hl with | [_, _], _ => rfl
  have F17 := fun_mk (st := s_Ldue) l17 e17 k17
  have b17 := F17.binds (ps := ["_law_asked", "_law_sizes_here", "_law_codes", "_law_unknown"]) fun _ _ _ _ _ _ us hl => match us, hl with | [_, _, _, _], _ => rfl
  have F18 := fun_mk (st := s_law) l18 e18 k18
  have b18 := F18.binds (ps := ["_law_script"]) fun _ _ _ _ _ _ us hl => match us, hl with | [_], _ => rfl
  have T : Tops l.prog K mg := ⟨⟨_, _, F0, PySem.W.mg_of X G a0, b0⟩, ⟨_, _, F1, PySem.W.mg_of X G a1, b1⟩, ⟨_, _, F2, PySem.W.mg_of X G a2, b2⟩, ⟨_, _, F3, PySem.W.mg_of X G a3, b3⟩, ⟨_, _, F4, PySem.W.mg_of X G a4, b4⟩, ⟨_, _, F5, PySem.W.mg_of X G a5, b5⟩, ⟨_, _, F6, PySem.W.mg_of X G a6, b6⟩, ⟨_, _, F7, PySem.W.mg_of X G a7, b7⟩, ⟨_, _, F8, PySem.W.mg_of X G a8, b8⟩, ⟨_, _, F9, PySem.W.mg_of X G a9, b9⟩, ⟨_, _, F10, PySem.W.mg_of X G a10, b10⟩, ⟨_, _, F11, PySem.W.mg_of X G a11, b11⟩, ⟨_, _, F12, PySem.W.mg_of X G a12, b12⟩, ⟨_, _, F13, PySem.W.mg_of X G a13, b13⟩, ⟨_, _, F14, PySem.W.mg_of X G a14, b14⟩, ⟨_, _, F15, PySem.W.mg_of X G a15, b15⟩, ⟨_, _, F16, PySem.W.mg_of X G a16, b16⟩, ⟨_, _, F17, PySem.W.mg_of X G a17, b17⟩, PySem.W.mg_none_of X G z_len, PySem.W.mg_none_of X G z_int, PySem.W.mg_none_of X G z_ord, PySem.W.mg_none_of X G z_range, PySem.W.mg_none_of X G z_min, PySem.W.mg_none_of X G z_tuple, PySem.W.mg_none_of X G z_isinstance, PySem.W.mg_none_of X G z_list, PySem.W.mg_none_of X G z_bool, PySem.W.mg_none_of X G z_str, PySem.W.mg_none_of X G z_reversed, PySem.W.mg_none_of X G z_sum, PySem.W.mg_none_of X G z_ValueError, ⟨_, PySem.W.mg_of X G g_CHARS⟩, ⟨_, PySem.W.mg_of X G g_FIRST_JOIN⟩, ⟨_, PySem.W.mg_of X G g_TEXT_MOST⟩, fun x C h => PySem.W.mg_of X G h, kx, e_CorpusError, e_TooLarge, e_InvalidBytes, e_UnknownCode, (List.forall_mem_cons.mpr ⟨s_UnknownCode_CorpusError, (List.forall_mem_cons.mpr ⟨s_TooLarge_CorpusError, (fun _ h => by cases h)⟩)⟩), (List.forall_mem_cons.mpr ⟨s_UnknownCode_TooLarge, (List.forall_mem_cons.mpr ⟨s_TooLarge_TooLarge, (fun _ h => by cases h)⟩)⟩), (List.forall_mem_cons.mpr ⟨s_UnknownCode_InvalidBytes, (List.forall_mem_cons.mpr ⟨s_TooLarge_InvalidBytes, (fun _ h => by cases h)⟩)⟩), (List.forall_mem_cons.mpr ⟨s_UnknownCode_UnknownCode, (List.forall_mem_cons.mpr ⟨s_TooLarge_UnknownCode, (fun _ h => by cases h)⟩)⟩), (List.forall_mem_cons.mpr ⟨sv_UnknownCode, (List.forall_mem_cons.mpr ⟨sv_TooLarge, (fun _ h => by cases h)⟩)⟩)⟩
  refine ⟨PySem.W.fnOf "law" "law" (defArgs s_law) (defBody s_law) (defScope s_law) .none kV18 dc18 pm18 an18 cd18 ct18, fun s v => .of_eq rfl, fun base _ _ => ?_⟩
  exact law_ok (P := l.prog) (w := w) (base := base) T F18
end My
open PySem PySem.W PyProof.Rows
set_option maxRecDepth 100000 in
set_option maxHeartbeats 0 in
theorem PySem.Challenge.cw_corpuskeep_k41_codes_that_are_refused_holds : PySem.Challenge.rw_corpuskeep_k41_codes_that_are_refused.Holds := by
  w_on; o_law; k_head; (case hw => w_witness2)
  k_fill
  refine L2.walk_ofK (l := PySem.Challenge.rw_corpuskeep_k41_codes_that_are_refused) (n := 63) (k := 7) (x := "_law_script") (CX := L2.CX0) (sp := fun K => DS.spOf K My.sp_law) rfl (by decide) rfl ⟨rfl, by decide, by decide⟩ (fun w h Y => PySem.W.kIn_of Y) ?F (fun K H a ns hl _ hS => DS.law_sp hl hS) (fun _ _ _ _ h => h)
  case F =>
    intro w mg fa h KX G hmg
    refine' My.all_mk KX G hmg ?a0 ?l0 ?e0 ?k0 ?a1 ?l1 ?e1 ?k1 ?a2 ?l2 ?e2 ?k2 ?a3 ?l3 ?e3 ?k3 ?a4 ?l4 ?e4 ?k4 ?a5 ?l5 ?e5 ?k5 ?a6 ?l6 ?e6 ?k6 ?a7 ?l7 ?e7 ?k7 ?a8 ?l8 ?e8 ?k8 ?a9 ?l9 ?e9 ?k9 ?a10 ?l10 ?e10 ?k10 ?a11 ?l11 ?e11 ?k11 ?a12 ?l12 ?e12 ?k12 ?a13 ?l13 ?e13 ?k13 ?a14 ?l14 ?e14 ?k14 ?a15 ?l15 ?e15 ?k15 ?a16 ?l16 ?e16 ?k16 ?a17 ?l17 ?e17 ?k17 ?a18 ?l18 ?e18 ?k18 ?z_len ?z_int ?z_ord ?z_range ?z_min ?z_tuple ?z_isinstance ?z_list ?z_bool ?z_str ?z_reversed ?z_sum ?z_ValueError ?g_CHARS ?g_FIRST_JOIN ?g_TEXT_MOST ?kx ?e_CorpusError ?e_TooLarge ?e_InvalidBytes ?e_UnknownCode ?s_UnknownCode_CorpusError ?s_TooLarge_CorpusError ?s_UnknownCode_TooLarge ?s_TooLarge_TooLarge ?s_UnknownCode_InvalidBytes ?s_TooLarge_InvalidBytes ?s_UnknownCode_UnknownCode ?s_TooLarge_UnknownCode ?sv_UnknownCode ?sv_TooLarge
    (case a0 => k_is)
    (case l0 => k_is)
    (case e0 => k_is)
    (case k0 => k_is)
    (case a1 => k_is)
    (case l1 => k_is)
    (case e1 => k_is)
    (case k1 => k_is)
    (case a2 => k_is)
    (case l2 => k_is)
    (case e2 => k_is)
    (case k2 => k_is)
    (case a3 => k_is)
    (case l3 => k_is)
    (case e3 => k_is)
    (case k3 => k_is)
    (case a4 => k_is)
    (case l4 => k_is)
    (case e4 => k_is)
    (case k4 => k_is)
    (case a5 => k_is)
    (case l5 => k_is)
    (case e5 => k_is)
    (case k5 => k_is)
    (case a6 => k_is)
    (case l6 => k_is)
    (case e6 => k_is)
    (case k6 => k_is)
    (case a7 => k_is)
    (case l7 => k_is)
    (case e7 => k_is)
    (case k7 => k_is)
    (case a8 => k_is)
    (case l8 => k_is)
    (case e8 => k_is)
    (case k8 => k_is)
    (case a9 => k_is)
    (case l9 => k_is)
    (case e9 => k_is)
    (case k9 => k_is)
    (case a10 => k_is)
    (case l10 => k_is)
    (case e10 => k_is)
    (case k10 => k_is)
    (case a11 => k_is)
    (case l11 => k_is)
    (case e11 => k_is)
    (case k11 => k_is)
    (case a12 => k_is)
    (case l12 => k_is)
    (case e12 => k_is)
    (case k12 => k_is)
    (case a13 => k_is)
    (case l13 => k_is)
    (case e13 => k_is)
    (case k13 => k_is)
    (case a14 => k_is)
    (case l14 => k_is)
    (case e14 => k_is)
    (case k14 => k_is)
    (case a15 => k_is)
    (case l15 => k_is)
    (case e15 => k_is)
    (case k15 => k_is)
    (case a16 => k_is)
    (case l16 => k_is)
    (case e16 => k_is)
    (case k16 => k_is)
    (case a17 => k_is)
    (case l17 => k_is)
    (case e17 => k_is)
    (case k17 => k_is)
    (case a18 => k_is)
    (case l18 => k_is)
    (case e18 => k_is)
    (case k18 => k_is)
    (case z_len => k_is)
    (case z_int => k_is)
    (case z_ord => k_is)
    (case z_range => k_is)
    (case z_min => k_is)
    (case z_tuple => k_is)
    (case z_isinstance => k_is)
    (case z_list => k_is)
    (case z_bool => k_is)
    (case z_str => k_is)
    (case z_reversed => k_is)
    (case z_sum => k_is)
    (case z_ValueError => k_is)
    (case g_CHARS => k_is)
    (case g_FIRST_JOIN => k_is)
    (case g_TEXT_MOST => k_is)
    (case kx => (refine' DS.ExK.mk ?cg ?ct; (case cg => k_is); (case ct => k_is)))
    (case e_CorpusError => (refine' DS.ExP.mk' ?nm ?exC ?hd ?ty ?kp ?self ?ga ?gg ?cl ?ob; (case nm => (unfold DS.NmC; k_is)); (case exC => k_is); (case hd => k_is); (case ty => k_is); (case kp => k_is); (case self => k_is); (case ga => k_is); (case gg => k_is); (case cl => k_is); (case ob => k_is)))
    (case e_TooLarge => (refine' DS.ExN.mk' ?nm ?exC ?hd ?ty ?kp ?self ?ga ?gg ?cl ?ob ?qve; (case nm => (unfold DS.NmC; k_is)); (case exC => k_is); (case hd => k_is); (case ty => k_is); (case kp => k_is); (case self => k_is); (case ga => k_is); (case gg => k_is); (case cl => k_is); (case ob => k_is); (case qve => k_exc)))
    (case e_InvalidBytes => (refine' DS.ExP.mk' ?nm ?exC ?hd ?ty ?kp ?self ?ga ?gg ?cl ?ob; (case nm => (unfold DS.NmC; k_is)); (case exC => k_is); (case hd => k_is); (case ty => k_is); (case kp => k_is); (case self => k_is); (case ga => k_is); (case gg => k_is); (case cl => k_is); (case ob => k_is)))
    (case e_UnknownCode => (refine' DS.ExI.mk' ?nm ?exC ?hd ?ty ?kp ?self ?ga ?gg ?cl ?ob ?lkC ?hbm ?sa ?iC ?tI ?lkf ?lkc ?cdI ?lkd ?hvs ?mrC ?sV ?sup ?opq ?ini ?top (DS.no1 ?no); (case nm => (unfold DS.NmC; k_is)); (case exC => k_is); (case hd => k_is); (case ty => k_is); (case kp => k_is); (case self => k_is); (case ga => k_is); (case gg => k_is); (case cl => k_is); (case ob => k_is); (case lkC => k_is); (case hbm => rfl); (case sa => k_is); (case iC => k_is); (case tI => k_is); (case lkf => k_is); (case lkc => k_is); (case cdI => k_is); (case lkd => k_is); (case hvs => rfl); (case mrC => k_is); (case sV => k_is); (case sup => k_is); (case opq => k_is); (case ini => rfl); (case top => rfl); (case no => k_is)))
    (case s_UnknownCode_CorpusError => (refine' DS.SubF.mk' ?h1 ?h2 ?h3; (case h1 => (unfold DS.NmC; k_is)); (case h2 => (unfold DS.NmC; k_is)); (case h3 => k_is)))
    (case s_TooLarge_CorpusError => (refine' DS.SubF.mk' ?h1 ?h2 ?h3; (case h1 => (unfold DS.NmC; k_is)); (case h2 => (unfold DS.NmC; k_is)); (case h3 => k_is)))
    (case s_UnknownCode_TooLarge => (refine' DS.SubF.mk' ?h1 ?h2 ?h3; (case h1 => (unfold DS.NmC; k_is)); (case h2 => (unfold DS.NmC; k_is)); (case h3 => k_is)))
    (case s_TooLarge_TooLarge => (refine' DS.SubF.mk' ?h1 ?h2 ?h3; (case h1 => (unfold DS.NmC; k_is)); (case h2 => (unfold DS.NmC; k_is)); (case h3 => k_is)))
    (case s_UnknownCode_InvalidBytes => (refine' DS.SubF.mk' ?h1 ?h2 ?h3; (case h1 => (unfold DS.NmC; k_is)); (case h2 => (unfold DS.NmC; k_is)); (case h3 => k_is)))
    (case s_TooLarge_InvalidBytes => (refine' DS.SubF.mk' ?h1 ?h2 ?h3; (case h1 => (unfold DS.NmC; k_is)); (case h2 => (unfold DS.NmC; k_is)); (case h3 => k_is)))
    (case s_UnknownCode_UnknownCode => (refine' DS.SubF.mk' ?h1 ?h2 ?h3; (case h1 => (unfold DS.NmC; k_is)); (case h2 => (unfold DS.NmC; k_is)); (case h3 => k_is)))
    (case s_TooLarge_UnknownCode => (refine' DS.SubF.mk' ?h1 ?h2 ?h3; (case h1 => (unfold DS.NmC; k_is)); (case h2 => (unfold DS.NmC; k_is)); (case h3 => k_is)))
    (case sv_UnknownCode => (refine' DS.SubV.mk' ?h1 ?h2; (case h1 => (unfold DS.NmC; k_is)); (case h2 => k_is)))
    (case sv_TooLarge => (refine' DS.SubV.mk' ?h1 ?h2; (case h1 => (unfold DS.NmC; k_is)); (case h2 => k_is)))
#print axioms PySem.Challenge.cw_corpuskeep_k41_codes_that_are_refused_holds
