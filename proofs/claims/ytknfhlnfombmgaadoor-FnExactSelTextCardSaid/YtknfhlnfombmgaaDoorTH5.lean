import Derived.Test.YtknfhlnfombmgaaDoorTH4
set_option linter.unusedVariables false
set_option linter.defProp false
namespace TT
open Go
def putS : List V → List (Nat × V) → List V
  | s, [] => s
  | s, q :: l => putS (s.set q.1 q.2) l
def putR : R → List (Nat × List Ent) → R
  | s, [] => s
  | s, q :: l => putR (s.set q.1 q.2) l
theorem Ok_tail {ρ : Type} {x : Option ρ} {e : ρ → Res} {y y' : Option Res} (h : Ok x e y') (he : y = y') : Ok x e y := fun r hr => he.trans (h r hr)
theorem Ok_get {α ρ : Type} {l : List α} {i : Int} {f : α → Option ρ} {e : ρ → Res} {y : Option Res} (h : ∀ a, 0 ≤ i ∧ getI l i = some a ∧ l[i.toNat]? = some a ∧ i.toNat < l.length → Ok (f a) e y) : Ok (getI l i >>= f) e y := Ok_prim fun a ha => by
  have h0 : 0 ≤ i := by
    unfold getI at ha
    by_cases hi : 0 ≤ i
    · exact hi
    · rw [if_neg hi] at ha; cases ha
  have h1 : l[i.toNat]? = some a := by rw [← getI_pos h0]; exact ha
  exact h a ⟨h0, ha, h1, (List.getElem?_eq_some_iff.1 h1).1⟩
theorem putS_nil (s : List V) : putS s [] = s := rfl
theorem putS_cons (s : List V) (i : Nat) (v : V) (l : List (Nat × V)) : putS s ((i, v) :: l) = putS (s.set i v) l := rfl
theorem putR_nil (s : R) : putR s [] = s := rfl
theorem putR_cons (s : R) (i : Nat) (v : List Ent) (l : List (Nat × List Ent)) : putR s ((i, v) :: l) = putR (s.set i v) l := rfl
theorem setRC_eq (rows : Rows) (i c : Nat) (t : T) : setRC rows i c t = match rows[i]? with | some row => rows.set i (row.set c t) | none => rows := rfl
theorem some_bnd {α β : Type} (a : α) (f : α → Option β) : (some a >>= f) = f a := rfl
theorem rI_eq (x : Int) : rI x = [.v (.int .i64 x)] := rfl
theorem rK_eq (k : IntKind) (x : Int) : rK k x = [.v (.int k x)] := rfl
theorem rS_eq (x : ByteArray) : rS x = [.v (.string x)] := rfl
theorem rB_eq (x : Bool) : rB x = [.v (.bool x)] := rfl
theorem rL_eq {α : Type} (o : Bool) (f : α → List T) (l : List α) : rL o f l = [.sl o (l.map f)] := rfl
/-- Lists of one length. -/
def sameL {α β : Type} (l : List α) (l' : List β) : Option Unit := if l.length = l'.length then some () else none
theorem lens_eq {α : Type} (f : α → List T) (n : Nat) (h : ∀ x, (f x).length = n) (l l' : List α) : ((l.map f).map (·.length) = (l'.map f).map (·.length)) = ((if l.length = l'.length then some () else none) = some ()) := by
  have e : ∀ l : List α, (l.map f).map (·.length) = List.replicate l.length n := by
    intro l
    induction l with
    | nil => rfl
    | cons x l ih => simp only [List.map_cons, ih, h, List.length_cons, List.replicate_succ]
  rw [e, e]
  apply propext
  constructor
  · intro hh
    have := congrArg List.length hh
    simp only [List.length_replicate] at this
    rw [if_pos this]
  · intro hh
    split at hh
    · rename_i h1; rw [h1]
    · cases hh
theorem len_rI (l l' : List Int) : ((l.map rI).map (·.length) = (l'.map rI).map (·.length)) = ((if l.length = l'.length then some () else none) = some ()) := lens_eq rI 1 (fun _ => rfl) l l'
theorem len_rS (l l' : List ByteArray) : ((l.map rS).map (·.length) = (l'.map rS).map (·.length)) = ((if l.length = l'.length then some () else none) = some ()) := lens_eq rS 1 (fun _ => rfl) l l'
theorem len_rL {α : Type} (o : Bool) (f : α → List T) (l l' : List (List α)) : ((l.map (rL o f)).map (·.length) = (l'.map (rL o f)).map (·.length)) = ((if l.length = l'.length then some () else none) = some ()) := lens_eq (rL o f) 1 (fun _ => rfl) l l'
theorem Ok_same {α β ρ : Type} {l : List α} {l' : List β} {f : Unit → Option ρ} {e : ρ → Res} {y : Option Res} (h : l.length = l'.length → Ok (f ()) e y) : Ok (sameL l l' >>= f) e y := Ok_prim fun a ha => by
  unfold sameL at ha
  split at ha
  · rename_i h1; cases ha; exact h h1
  · cases ha
theorem ptrRow_cons (rows : Rows) (stt : Nat) (q : Nat × Nat) (p : Path) (i n st : Nat) : ptrRow rows stt (q :: p) i n st = if st = stt then (getP rows (q :: p)).bind (·[i]?) else none := rfl
theorem getP_nil (rows : Rows) : getP rows [] = some rows := rfl
def getPT (p : Path) : Option T → Option Rows
  | some (.sl true rows) => getP rows p
  | _ => none
theorem getPT_some (p : Path) (rows : Rows) : getPT p (some (.sl true rows)) = getP rows p := rfl
theorem getP_cons (rows : Rows) (i c : Nat) (p : Path) : getP rows ((i, c) :: p) = getPT p (rows[i]?.bind (·[c]?)) := by
  simp only [getP, getPT]; cases rows[i]?.bind (·[c]?) with
  | none => rfl
  | some t => cases t <;> try rfl
theorem getC_all (rows : Rows) (p : Path) (i c : Nat) : getC rows p i c = (getP rows p).bind fun rs => rs[i]?.bind (·[c]?) := rfl
def setCT (rows : Rows) (i0 c0 : Nat) (p : Path) (i c : Nat) (t : T) : Option T → Rows
  | some (.sl true rows') => setRC rows i0 c0 (.sl true (setC rows' p i c t))
  | _ => rows
theorem setCT_some (rows : Rows) (i0 c0 : Nat) (p : Path) (i c : Nat) (t : T) (rows' : Rows) : setCT rows i0 c0 p i c t (some (.sl true rows')) = setRC rows i0 c0 (.sl true (setC rows' p i c t)) := rfl
theorem setC_cons (rows : Rows) (i0 c0 : Nat) (p : Path) (i c : Nat) (t : T) : setC rows ((i0, c0) :: p) i c t = setCT rows i0 c0 p i c t (rows[i0]?.bind (·[c0]?)) := by
  simp only [setC, setCT]; cases rows[i0]?.bind (·[c0]?) with
  | none => rfl
  | some t => cases t <;> try rfl
theorem getI_set_self {α : Type} (l : List α) (i : Int) (x : α) : getI (l.set i.toNat x) i = if 0 ≤ i then (if i.toNat < l.length then some x else none) else none := by
  unfold getI
  split
  · simp [List.getElem?_set]
  · rfl
def iaCT (sz : Nat) (id : Id) (p : Path) (n : Int) (m st : Nat) : T → M V
  | .sl true rs => iaS sz id p n m st rs
  | _ => .fail
theorem iaCT_sl (sz : Nat) (id : Id) (p : Path) (n : Int) (m st : Nat) (rs : Rows) : iaCT sz id p n m st (.sl true rs) = iaS sz id p n m st rs := rfl
theorem iaC_mem (sz : Nat) (id : Id) (p : Path) (j c : Nat) (n : Int) (m st : Nat) (rows : Rows) (stt : Nat) (fx : Bool) : iaC sz id p j c n m st (.mem rows stt fx) = if st = stt then oneM (getC rows p j c) (iaCT sz id (p ++ [(j, c)]) n m st) else .fail := by
  simp only [iaC]; split
  · cases getC rows p j c with
    | none => rfl
    | some t => cases t <;> try rfl
  · rfl
/-! Folding: rows that are written stay rows of a list -/
theorem fset {α : Type} (f : α → List T) (l : List α) (i : Nat) (x : α) (r : List T) (h : f x = r) : (l.map f).set i r = (l.set i x).map f := by rw [← h, List.map_set]
theorem fapp {α : Type} (f : α → List T) (l : List α) (x : α) (r : List T) (rs : Rows) (h : f x = r) : l.map f ++ (r :: rs) = (l ++ [x]).map f ++ rs := by rw [← h]; simp
theorem fset_rI (l : List Int) (i : Nat) (x : Int) : (l.map rI).set i [.v (.int .i64 x)] = (l.set i x).map rI := fset rI l i x _ rfl
theorem fset_rK (k : IntKind) (l : List Int) (i : Nat) (x : Int) : (l.map (rK k)).set i [.v (.int k x)] = (l.set i x).map (rK k) := fset (rK k) l i x _ rfl
theorem fset_rS (l : List ByteArray) (i : Nat) (x : ByteArray) : (l.map rS).set i [.v (.string x)] = (l.set i x).map rS := fset rS l i x _ rfl
theorem fset_rB (l : List Bool) (i : Nat) (x : Bool) : (l.map rB).set i [.v (.bool x)] = (l.set i x).map rB := fset rB l i x _ rfl
theorem fset_rL {α : Type} (o : Bool) (f : α → List T) (l : List (List α)) (i : Nat) (x : List α) : (l.map (rL o f)).set i [.sl o (x.map f)] = (l.set i x).map (rL o f) := fset (rL o f) l i x _ rfl
theorem fset_rLn {α : Type} (o : Bool) (f : α → List T) (l : List (List α)) (i : Nat) : (l.map (rL o f)).set i [.sl o []] = (l.set i []).map (rL o f) := fset (rL o f) l i [] _ rfl
theorem fapp_rI (l : List Int) (x : Int) (rs : Rows) : l.map rI ++ ([.v (.int .i64 x)] :: rs) = (l ++ [x]).map rI ++ rs := fapp rI l x _ rs rfl
theorem fapp_rK (k : IntKind) (l : List Int) (x : Int) (rs : Rows) : l.map (rK k) ++ ([.v (.int k x)] :: rs) = (l ++ [x]).map (rK k) ++ rs := fapp (rK k) l x _ rs rfl
theorem fapp_rS (l : List ByteArray) (x : ByteArray) (rs : Rows) : l.map rS ++ ([.v (.string x)] :: rs) = (l ++ [x]).map rS ++ rs := fapp rS l x _ rs rfl
theorem fapp_rB (l : List Bool) (x : Bool) (rs : Rows) : l.map rB ++ ([.v (.bool x)] :: rs) = (l ++ [x]).map rB ++ rs := fapp rB l x _ rs rfl
theorem fapp_rL {α : Type} (o : Bool) (f : α → List T) (l : List (List α)) (x : List α) (rs : Rows) : l.map (rL o f) ++ ([.sl o (x.map f)] :: rs) = (l ++ [x]).map (rL o f) ++ rs := fapp (rL o f) l x _ rs rfl
theorem fapp_rLn {α : Type} (o : Bool) (f : α → List T) (l : List (List α)) (rs : Rows) : l.map (rL o f) ++ ([.sl o []] :: rs) = (l ++ [[]]).map (rL o f) ++ rs := fapp (rL o f) l [] _ rs rfl
theorem fapp_map {α : Type} (f : α → List T) (l l' : List α) : l.map f ++ l'.map f = (l ++ l').map f := by simp
theorem frep {α : Type} (f : α → List T) (n : Nat) (x : α) (r : List T) (h : f x = r) : List.replicate n r = (List.replicate n x).map f := by rw [← h, List.map_replicate]
theorem frep_rI (n : Nat) (x : Int) : List.replicate n [T.v (.int .i64 x)] = (List.replicate n x).map rI := frep rI n x _ rfl
theorem frep_rK (k : IntKind) (n : Nat) (x : Int) : List.replicate n [T.v (.int k x)] = (List.replicate n x).map (rK k) := frep (rK k) n x _ rfl
theorem frep_rS (n : Nat) (x : ByteArray) : List.replicate n [T.v (.string x)] = (List.replicate n x).map rS := frep rS n x _ rfl
theorem frep_rB (n : Nat) (x : Bool) : List.replicate n [T.v (.bool x)] = (List.replicate n x).map rB := frep rB n x _ rfl
theorem frep_rLI (n : Nat) (o : Bool) : List.replicate n [T.sl o []] = (List.replicate n []).map (rL o rI) := frep (rL o rI) n [] _ rfl
def S3 := And.intro frep_rI <| And.intro frep_rS <| And.intro frep_rB <| And.intro frep_rLI <| And.intro fset_rI <| And.intro fset_rK <| And.intro fset_rS <| And.intro fset_rB <| And.intro (@fset_rL) <| And.intro (@fset_rLn) <| And.intro fapp_rI <| And.intro fapp_rK <| And.intro fapp_rS <| And.intro fapp_rB <| And.intro (@fapp_rL) <| And.intro (@fapp_rLn) <| And.intro (@fapp_map) <| And.intro (@getI_set_self) <| And.intro iaCT_sl <| And.intro iaC_mem <| And.intro ptrRow_cons <| And.intro getP_nil <| And.intro getPT_some <| And.intro getP_cons <| And.intro getC_all <| And.intro setCT_some <| And.intro setC_cons <| And.intro len_rI <| And.intro len_rS <| And.intro (@len_rL) <| And.intro (@some_bnd) <| And.intro rI_eq <| And.intro rK_eq <| And.intro rS_eq <| And.intro rB_eq <| And.intro (@rL_eq) <| And.intro setRC_eq <| And.intro (@List.set_set.{0}) <| And.intro putS_nil <| And.intro putS_cons <| And.intro putR_nil <| And.intro putR_cons <| And.intro (@List.getElem?_map.{0, 0}) <| And.intro (@List.getElem?_set.{0}) <| (@List.length_set.{0})
end TT
