import Derived.Test.YtdpdfjkjlkmjaaaTTypes
set_option maxHeartbeats 2000000
set_option linter.unusedVariables false
set_option linter.unusedSimpArgs false
set_option linter.defProp false
set_option maxRecDepth 100000
set_option synthInstance.maxHeartbeats 4000000
set_option synthInstance.maxSize 100000
namespace TT
open Go
def laws_big (code : List Int) : Option (Bool) :=
 some (gtI (lenL code) 1048576)
def spec_l1New_l8 (code : List Int) (h : Int) (i : Int) : Option (Gl1Cur) :=
 if (ltI i (lenL code)) then
  if (ltI i 4000) then
   getI code i >>= fun x1 =>
   spec_l1New_l8 code (andK .i64 (addI (addI (mulI h 137) (wr .i64 x1)) 11) 1073741823) (addI i 1)
  else
   some (Gl1Cur.mk code 0 h)
 else
  some (Gl1Cur.mk code 0 h)
 partial_fixpoint
def spec_l1New (code : List Int) : Option (Gl1Cur) :=
 spec_l1New_l8 code (addI 129371 (lenL code)) 0
def spec_l1Byte (c : Gl1Cur) : Option (Int × Gl1Cur) :=
 shrK .i64 (addI (mulI c.xh 6364136223846793005) 1442695040888963407) 33 >>= fun x =>
 shrK .i64 (addI (mulI c.xh 6364136223846793005) 1442695040888963407) 47 >>= fun x1 =>
 if (ltI c.xi (lenL c.xb)) then
  getI c.xb c.xi >>= fun x2 =>
  some ((andK .i64 (addI (andK .i64 (xorK .i64 x x1) 255) (wr .i64 x2)) 255), (Gl1Cur.mk c.xb (addI c.xi 1) (addI (mulI c.xh 6364136223846793005) 1442695040888963407)))
 else
  some ((andK .i64 (xorK .i64 x x1) 255), (Gl1Cur.mk c.xb c.xi (addI (mulI c.xh 6364136223846793005) 1442695040888963407)))
def spec_l1Below (c : Gl1Cur) (n : Int) : Option (Int × Gl1Cur) :=
 if (leI n 0) then
  some (0, c)
 else
  if (leI n 256) then
   spec_l1Byte c >>= fun r =>
   remI r.1 n >>= fun x =>
   some (x, r.2)
  else
   spec_l1Byte c >>= fun r1 =>
   spec_l1Byte r1.2 >>= fun r2 =>
   spec_l1Byte r2.2 >>= fun r3 =>
   remI (addI (addI (mulI r1.1 65536) (mulI r2.1 256)) r3.1) n >>= fun x1 =>
   some (x1, r3.2)
def spec_l1Str (c : Gl1Cur) (list : List ByteArray) : Option (ByteArray × Gl1Cur) :=
 spec_l1Below c (lenL list) >>= fun r =>
 getI list r.1 >>= fun x =>
 some (x, r.2)
mutual
def spec_l18Small (c : Gl1Cur) (most : Int) : Option (GNode × Gl1Cur × Int) :=
 spec_l1Str c [⟨#[97]⟩, ⟨#[98]⟩, ⟨#[99]⟩] >>= fun r =>
 spec_l1Below r.2 4 >>= fun r1 =>
 spec_l18Small_l8 r1.1 r1.2 most r []
 partial_fixpoint
def spec_l18Small_l8 (i : Int) (c1 : Gl1Cur) (most1 : Int) (r : ByteArray × Gl1Cur) (nKids : List (GNode)) : Option (GNode × Gl1Cur × Int) :=
 if (gtI i 0) then
  if (gtI most1 0) then
   spec_l18Small c1 (subI most1 1) >>= fun r3 =>
   room (nKids.length + 1) 144 >>= fun x_1 =>
   spec_l18Small_l8 (subI i 1) r3.2.1 r3.2.2 r (nKids ++ [r3.1])
  else
   some ((GNode.mk 1 (⟨#[]⟩) r.1 (⟨#[]⟩) [] [] nKids (⟨#[]⟩)), c1, most1)
 else
  some ((GNode.mk 1 (⟨#[]⟩) r.1 (⟨#[]⟩) [] [] nKids (⟨#[]⟩)), c1, most1)
 partial_fixpoint
end
def spec_DrawSmall (code : List Int) : Option (GNode × GNode × GNode) :=
 spec_l1New code >>= fun r =>
 spec_l1Below r 8 >>= fun r1 =>
 spec_l18Small r1.2 r1.1 >>= fun r2 =>
 spec_l1Below r2.2.1 8 >>= fun r3 =>
 spec_l18Small r3.2 r3.1 >>= fun r4 =>
 spec_l1Below r4.2.1 8 >>= fun r5 =>
 spec_l18Small r5.2 r5.1 >>= fun r6 =>
 some (r2.1, r4.1, r6.1)
mutual
def impl_Nodes (n : GNode) : Option (Int) :=
 impl_Nodes_l8 1 n 0
 partial_fixpoint
def impl_Nodes_l8 (out : Int) (n : GNode) (x1 : Int) : Option (Int) :=
 if (ltI x1 (lenL n.Kids)) then
  getI n.Kids x1 >>= fun x2 =>
  impl_Nodes x2 >>= fun r1 =>
  impl_Nodes_l8 (addI out r1) n (addI x1 1)
 else
  some out
 partial_fixpoint
end
def slices_Clone_Decl (s : List (GDecl)) : Option (List GDecl) :=
 room s.length 32 >>= fun _ => some s
def slices_Clone_Attr (s : List (GAttr)) : Option (List GAttr) :=
 room s.length 64 >>= fun _ => some s
mutual
def impl_cloneNode (n : GNode) : Option (GNode) :=
 slices_Clone_Decl n.Decls >>= fun r =>
 slices_Clone_Attr n.Attrs >>= fun r1 =>
 impl_cloneNodes n.Kids >>= fun r2 =>
 some (GNode.mk n.Kind n.Pre n.Local n.Uri r r1 r2 n.Text)
 partial_fixpoint
def impl_cloneNodes (l : List GNode) : Option (List GNode) :=
 impl_cloneNodes_l8 [] l 0
 partial_fixpoint
def impl_cloneNodes_l8 (out : List (GNode)) (l : List GNode) (x1 : Int) : Option (List GNode) :=
 if (ltI x1 (lenL l)) then
  getI l x1 >>= fun x2 =>
  impl_cloneNode x2 >>= fun r1 =>
  room (out.length + 1) 144 >>= fun x_1 =>
  impl_cloneNodes_l8 (out ++ [r1]) l (addI x1 1)
 else
  some out
 partial_fixpoint
end
def impl_Alone (n : GNode) : Option (GNode) :=
 impl_cloneNode (GNode.mk n.Kind n.Pre n.Local n.Uri n.Decls n.Attrs [] n.Text) >>= fun r =>
 some r
mutual
def impl_row_put' (r : Ggaps) (n : GNode) : Option (Ggaps) :=
 impl_row_put'_l8 r n 0 r
 partial_fixpoint
def impl_row_put'_l8 (r : Ggaps) (n : GNode) (x2 : Int) (r3 : Ggaps) : Option (Ggaps) :=
 if (ltI x2 (lenL n.Kids)) then
  getI n.Kids x2 >>= fun x3 =>
  impl_row_put' r3 x3 >>= fun r4 =>
  impl_row_put'_l8 r n (addI x2 1) r4
 else
  impl_Alone n >>= fun r5 =>
  room (r3.xa.xnodes.length + 1) 144 >>= fun x_2 =>
  getI (r3.xa.xnodes ++ [(GNode.mk 0 (⟨#[]⟩) (⟨#[]⟩) (⟨#[]⟩) [] [] [] (⟨#[]⟩))]) (lenL r3.xa.xnodes) >>= fun x4 =>
  room (r3.xa.xfirst.length + 1) 8 >>= fun x_3 =>
  some (Ggaps.mk (Grow.mk ((r3.xa.xnodes ++ [(GNode.mk 0 (⟨#[]⟩) (⟨#[]⟩) (⟨#[]⟩) [] [] [] (⟨#[]⟩))]).set (Int.toNat (lenL r3.xa.xnodes)) r5) (r3.xa.xfirst ++ [(lenL r.xa.xnodes)])) r3.xb r3.xtree)
 partial_fixpoint
end
def impl_row_put_l8 (r : Ggaps) (n : GNode) (x2 : Int) (r3 : Ggaps) : Option (Ggaps) :=
 if (ltI x2 (lenL n.Kids)) then
  getI n.Kids x2 >>= fun x3 =>
  impl_row_put' r3 x3 >>= fun r4 =>
  impl_row_put_l8 r n (addI x2 1) r4
 else
  impl_Alone n >>= fun r5 =>
  room (r3.xa.xnodes.length + 1) 144 >>= fun x_2 =>
  getI (r3.xa.xnodes ++ [(GNode.mk 0 (⟨#[]⟩) (⟨#[]⟩) (⟨#[]⟩) [] [] [] (⟨#[]⟩))]) (lenL r3.xa.xnodes) >>= fun x4 =>
  room (r3.xa.xfirst.length + 1) 8 >>= fun x_3 =>
  some (Ggaps.mk (Grow.mk ((r3.xa.xnodes ++ [(GNode.mk 0 (⟨#[]⟩) (⟨#[]⟩) (⟨#[]⟩) [] [] [] (⟨#[]⟩))]).set (Int.toNat (lenL r3.xa.xnodes)) r5) (r3.xa.xfirst ++ [(lenL r.xa.xnodes)])) r3.xb r3.xtree)
 partial_fixpoint
def impl_row_put (r : Ggaps) (n : GNode) : Option (Ggaps) :=
 impl_row_put_l8 r n 0 r
mutual
def impl_row_put'' (r : Ggaps) (n : GNode) : Option (Ggaps) :=
 impl_row_put''_l8 r n 0 r
 partial_fixpoint
def impl_row_put''_l8 (r : Ggaps) (n : GNode) (x2 : Int) (r3 : Ggaps) : Option (Ggaps) :=
 if (ltI x2 (lenL n.Kids)) then
  getI n.Kids x2 >>= fun x3 =>
  impl_row_put'' r3 x3 >>= fun r4 =>
  impl_row_put''_l8 r n (addI x2 1) r4
 else
  impl_Alone n >>= fun r5 =>
  room (r3.xb.xnodes.length + 1) 144 >>= fun x_2 =>
  getI (r3.xb.xnodes ++ [(GNode.mk 0 (⟨#[]⟩) (⟨#[]⟩) (⟨#[]⟩) [] [] [] (⟨#[]⟩))]) (lenL r3.xb.xnodes) >>= fun x4 =>
  room (r3.xb.xfirst.length + 1) 8 >>= fun x_3 =>
  some (Ggaps.mk r3.xa (Grow.mk ((r3.xb.xnodes ++ [(GNode.mk 0 (⟨#[]⟩) (⟨#[]⟩) (⟨#[]⟩) [] [] [] (⟨#[]⟩))]).set (Int.toNat (lenL r3.xb.xnodes)) r5) (r3.xb.xfirst ++ [(lenL r.xb.xnodes)])) r3.xtree)
 partial_fixpoint
end
def slices_Equal_Decl_l14 (s1 : List GDecl) (s2 : List GDecl) (x2 : Int) : Option (Bool) :=
 if (ltI x2 (lenL s1)) then
  getI s1 x2 >>= fun x3 =>
  getI s2 x2 >>= fun x4 =>
  if (eqS x3.Pre x4.Pre && eqS x3.Uri x4.Uri) then
   slices_Equal_Decl_l14 s1 s2 (addI x2 1)
  else
   some false
 else
  some true
 partial_fixpoint
def slices_Equal_Decl (s1 : List GDecl) (s2 : List GDecl) : Option (Bool) :=
 if (neI (lenL s1) (lenL s2)) then
  some false
 else
  slices_Equal_Decl_l14 s1 s2 0
def slices_Equal_Attr_l14 (s1 : List GAttr) (s2 : List GAttr) (x2 : Int) : Option (Bool) :=
 if (ltI x2 (lenL s1)) then
  getI s1 x2 >>= fun x3 =>
  getI s2 x2 >>= fun x4 =>
  if (eqS x3.Pre x4.Pre && (eqS x3.Local x4.Local && (eqS x3.Uri x4.Uri && eqS x3.Val x4.Val))) then
   slices_Equal_Attr_l14 s1 s2 (addI x2 1)
  else
   some false
 else
  some true
 partial_fixpoint
def slices_Equal_Attr (s1 : List GAttr) (s2 : List GAttr) : Option (Bool) :=
 if (neI (lenL s1) (lenL s2)) then
  some false
 else
  slices_Equal_Attr_l14 s1 s2 0
def impl_sameAlone (a : GNode) (b : GNode) : Option (Bool) :=
 if (eqI a.Kind b.Kind) then
  if (eqS a.Pre b.Pre) then
   if (eqS a.Local b.Local) then
    if (eqS a.Uri b.Uri) then
     if (eqS a.Text b.Text) then
      slices_Equal_Decl a.Decls b.Decls >>= fun r =>
      if r then
       slices_Equal_Attr a.Attrs b.Attrs >>= fun r1 =>
       some r1
      else
       some false
     else
      some false
    else
     some false
   else
    some false
  else
   some false
 else
  some false
def impl_gaps_least_j12 (forest : List (List Int)) (p : Int) (q : Int) (a2 : Int) (y : Int) (x1 : Int) (x3 : Int) (change : Int) (g : Ggaps) : Option (Int × Ggaps) :=
 getI forest (subI p 1) >>= fun x9 =>
 getI x9 (subI q 1) >>= fun x10 =>
 getI g.xtree (subI (addI a2 p) 1) >>= fun x11 =>
 getI x11 (subI (addI y q) 1) >>= fun x12 =>
 some ((minI (addI (minI x1 x3) 1) (addI x10 change)), (Ggaps.mk g.xa g.xb (g.xtree.set (Int.toNat (subI (addI a2 p) 1)) (x11.set (Int.toNat (subI (addI y q) 1)) (minI (addI (minI x1 x3) 1) (addI x10 change))))))
def impl_gaps_least_j7 (forest : List (List Int)) (a2 : Int) (y : Int) (p : Int) (q : Int) (x1 : Int) (x3 : Int) (x6 : Bool) (g : Ggaps) : Option (Int × Ggaps) :=
 if x6 then
  getI g.xa.xnodes (subI (addI a2 p) 1) >>= fun x7 =>
  getI g.xb.xnodes (subI (addI y q) 1) >>= fun x8 =>
  impl_sameAlone x7 x8 >>= fun r =>
  if r then
   impl_gaps_least_j12 forest p q a2 y x1 x3 0 g
  else
   impl_gaps_least_j12 forest p q a2 y x1 x3 1 g
 else
  getI g.xa.xfirst (subI (addI a2 p) 1) >>= fun x13 =>
  getI forest (subI x13 a2) >>= fun x14 =>
  getI g.xb.xfirst (subI (addI y q) 1) >>= fun x15 =>
  getI x14 (subI x15 y) >>= fun x16 =>
  getI g.xtree (subI (addI a2 p) 1) >>= fun x17 =>
  getI x17 (subI (addI y q) 1) >>= fun x18 =>
  some ((minI (addI (minI x1 x3) 1) (addI x16 x18)), g)
def impl_gaps_least (g : Ggaps) (forest : List (List Int)) (a2 : Int) (y : Int) (p : Int) (q : Int) : Option (Int × Ggaps) :=
 getI forest (subI p 1) >>= fun x =>
 getI x q >>= fun x1 =>
 getI forest p >>= fun x2 =>
 getI x2 (subI q 1) >>= fun x3 =>
 getI g.xa.xfirst (subI (addI a2 p) 1) >>= fun x4 =>
 if (eqI x4 a2) then
  getI g.xb.xfirst (subI (addI y q) 1) >>= fun x5 =>
  impl_gaps_least_j7 forest a2 y p q x1 x3 (eqI x5 y) g
 else
  impl_gaps_least_j7 forest a2 y p q x1 x3 false g
mutual
def impl_gaps_count_l38 (x : Int) (x1 : Int) (forest6 : List (List Int)) (x48 : Int) (forest3 : List (List Int)) (x49 : List Int) (x56 : Int) (g6 : Ggaps) : Option (Ggaps) :=
 if (ltI x56 (lenL x49)) then
  if (eqI x48 0) then
   getI forest6 x48 >>= fun x57 =>
   getI x57 x56 >>= fun x58 =>
   impl_gaps_count_l38 x x1 (forest6.set (Int.toNat x48) (x57.set (Int.toNat x56) x56)) x48 forest3 x49 (addI x56 1) g6
  else
   if (eqI x56 0) then
    getI forest6 x48 >>= fun x59 =>
    getI x59 x56 >>= fun x60 =>
    impl_gaps_count_l38 x x1 (forest6.set (Int.toNat x48) (x59.set (Int.toNat x56) x48)) x48 forest3 x49 (addI x56 1) g6
   else
    getI forest6 x48 >>= fun x61 =>
    impl_gaps_least g6 forest6 x x1 x48 x56 >>= fun r7 =>
    getI x61 x56 >>= fun x62 =>
    impl_gaps_count_l38 x x1 (forest6.set (Int.toNat x48) (x61.set (Int.toNat x56) r7.1)) x48 forest3 x49 (addI x56 1) r7.2
 else
  impl_gaps_count_l24 x x1 forest6 forest3 (addI x48 1) g6
 partial_fixpoint
def impl_gaps_count_l24 (x : Int) (x1 : Int) (forest5 : List (List Int)) (forest3 : List (List Int)) (x48 : Int) (g5 : Ggaps) : Option (Ggaps) :=
 if (ltI x48 (lenL forest3)) then
  getI forest5 x48 >>= fun x49 =>
  impl_gaps_count_l38 x x1 forest5 x48 forest3 x49 0 g5
 else
  some g5
 partial_fixpoint
end
def pc_impl_gaps_count_l38 := @impl_gaps_count_l38.mutual_partial_correctness
def impl_gaps_count_l8 (k : Int) (x : Int) (x1 : Int) (forest3 : List (List Int)) (m : Nat) (x32 : Int) (g : Ggaps) : Option (Ggaps) :=
 if (ltI x32 ((m : Nat) : Int)) then
  mkN (addI (subI k x1) 2) 8 >>= fun m2 =>
  getI forest3 x32 >>= fun x33 =>
  impl_gaps_count_l8 k x x1 (forest3.set (Int.toNat x32) (List.replicate m2 0)) m (addI x32 1) g
 else
  impl_gaps_count_l24 x x1 forest3 forest3 0 g
 partial_fixpoint
def pc_impl_gaps_count_l8 := @impl_gaps_count_l8.partial_correctness
def impl_gaps_count (g : Ggaps) (i : Int) (k : Int) : Option (Ggaps) :=
 getI g.xa.xfirst i >>= fun x =>
 getI g.xb.xfirst k >>= fun x1 =>
 mkN (addI (subI i x) 2) 24 >>= fun m =>
 impl_gaps_count_l8 k x x1 (List.replicate m []) m 0 g
mutual
def impl_Gap_l49 (x11 : Int) (r3 : Ggaps) (g4 : Ggaps) (x12 : Int) (g5 : Ggaps) : Option (Int) :=
 if (ltI x12 (lenL g4.xb.xnodes)) then
  impl_gaps_count g5 x11 x12 >>= fun r11 =>
  impl_Gap_l49 x11 r3 g4 (addI x12 1) r11
 else
  impl_Gap_l35 r3 (addI x11 1) g5
 partial_fixpoint
def impl_Gap_l35 (r3 : Ggaps) (x11 : Int) (g4 : Ggaps) : Option (Int) :=
 if (ltI x11 (lenL r3.xa.xnodes)) then
  impl_Gap_l49 x11 r3 g4 0 g4
 else
  getI g4.xtree (subI (lenL g4.xa.xnodes) 1) >>= fun x13 =>
  getI x13 (subI (lenL g4.xb.xnodes) 1) >>= fun x14 =>
  some x14
 partial_fixpoint
end
def impl_Gap_l20 (r3 : Ggaps) (x7 : Int) (gxtree : List (List Int)) : Option (Int) :=
 if (ltI x7 (lenL r3.xa.xnodes)) then
  mkN (lenL r3.xb.xnodes) 8 >>= fun m1 =>
  room (gxtree.length + 1) 24 >>= fun x_1 =>
  impl_Gap_l20 r3 (addI x7 1) (gxtree ++ [(List.replicate m1 0)])
 else
  impl_Gap_l35 r3 0 (Ggaps.mk r3.xa r3.xb gxtree)
 partial_fixpoint
def impl_Gap (a : GNode) (b : GNode) : Option (Int) :=
 impl_Nodes a >>= fun r =>
 if (gtI r 12) then
  some (-1)
 else
  impl_Nodes b >>= fun r1 =>
  if (gtI r1 12) then
   some (-1)
  else
   impl_row_put (Ggaps.mk (Grow.mk [] []) (Grow.mk [] []) []) a >>= fun r2 =>
   impl_row_put'' r2 b >>= fun r3 =>
   impl_Gap_l20 r3 0 r3.xtree
mutual
def spec_Nodes (n : GNode) : Option (Int) :=
 spec_Nodes_l8 1 0 n
 partial_fixpoint
def spec_Nodes_l8 (k : Int) (i : Int) (n : GNode) : Option (Int) :=
 if (ltI i (lenL n.Kids)) then
  getI n.Kids i >>= fun x1 =>
  spec_Nodes x1 >>= fun r1 =>
  spec_Nodes_l8 (addI k r1) (addI i 1) n
 else
  some k
 partial_fixpoint
end
mutual
def spec_l5All (l : List GNode) : Option (List GNode) :=
 spec_l5All_l8 l [] 0
 partial_fixpoint
def spec_l5All_l8 (l : List GNode) (out : List (GNode)) (i : Int) : Option (List GNode) :=
 if (ltI i (lenL l)) then
  getI l i >>= fun x1 =>
  spec_l5Copy x1 >>= fun r1 =>
  room (out.length + 1) 144 >>= fun x_1 =>
  spec_l5All_l8 l (out ++ [r1]) (addI i 1)
 else
  some out
 partial_fixpoint
def spec_l5Copy (n : GNode) : Option (GNode) :=
 room (0 + n.Decls.length) 32 >>= fun x_ =>
 room (0 + n.Attrs.length) 64 >>= fun x_1 =>
 spec_l5All n.Kids >>= fun r =>
 some (GNode.mk n.Kind n.Pre n.Local n.Uri ([] ++ n.Decls) ([] ++ n.Attrs) r n.Text)
 partial_fixpoint
end
def spec_Alone (n : GNode) : Option (GNode) :=
 spec_l5Copy n >>= fun r =>
 some (GNode.mk r.Kind r.Pre r.Local r.Uri r.Decls r.Attrs [] r.Text)
mutual
def spec_l18Post (n : GNode) (at1 : Int) : Option (List GNode × List Int) :=
 spec_l18Post_l10 at1 [] [] 0 n
 partial_fixpoint
def spec_l18Post_l10 (at1 : Int) (l : List (GNode)) (first : List (Int)) (i : Int) (n : GNode) : Option (List GNode × List Int) :=
 if (ltI i (lenL n.Kids)) then
  getI n.Kids i >>= fun x1 =>
  spec_l18Post x1 (addI at1 (lenL l)) >>= fun r2 =>
  room (l.length + r2.1.length) 144 >>= fun x_4 =>
  room (first.length + r2.2.length) 8 >>= fun x_5 =>
  spec_l18Post_l10 at1 (l ++ r2.1) (first ++ r2.2) (addI i 1) n
 else
  spec_Alone n >>= fun r3 =>
  room (l.length + 1) 144 >>= fun x_6 =>
  room (first.length + 1) 8 >>= fun x_7 =>
  some ((l ++ [r3]), (first ++ [at1]))
 partial_fixpoint
end
mutual
def spec_l18Grid_l23 (n : Int) (m : Int) (t : List (List Int)) (i : Int) (row1 : List (Int)) (k1 : Int) : Option (List (List Int)) :=
 if (ltI k1 m) then
  room (row1.length + 1) 8 >>= fun x_6 =>
  spec_l18Grid_l23 n m t i (row1 ++ [0]) (addI k1 1)
 else
  room (t.length + 1) 24 >>= fun x_7 =>
  spec_l18Grid_l8 n m (t ++ [row1]) (addI i 1)
 partial_fixpoint
def spec_l18Grid_l8 (n : Int) (m : Int) (t : List (List Int)) (i : Int) : Option (List (List Int)) :=
 if (ltI i n) then
  spec_l18Grid_l23 n m t i [] 0
 else
  some t
 partial_fixpoint
end
def pc_spec_l18Grid_l23 := @spec_l18Grid_l23.mutual_partial_correctness
def spec_l18Grid (n : Int) (m : Int) : Option (List (List Int)) :=
 spec_l18Grid_l8 n m [] 0
mutual
def spec_l18Keys_l23 (first : List Int) (out : List (Int)) (i : Int) (last1 : Bool) (k1 : Int) : Option (List Int) :=
 if (ltI k1 (lenL first)) then
  if last1 then
   getI first k1 >>= fun x6 =>
   getI first i >>= fun x7 =>
   spec_l18Keys_l23 first out i (neI x6 x7) (addI k1 1)
  else
   spec_l18Keys_l23 first out i false (addI k1 1)
 else
  if last1 then
   room (out.length + 1) 8 >>= fun x_3 =>
   spec_l18Keys_l8 first (out ++ [i]) (addI i 1)
  else
   spec_l18Keys_l8 first out (addI i 1)
 partial_fixpoint
def spec_l18Keys_l8 (first : List Int) (out : List (Int)) (i : Int) : Option (List Int) :=
 if (ltI i (lenL first)) then
  spec_l18Keys_l23 first out i true (addI i 1)
 else
  some out
 partial_fixpoint
end
def spec_l18Keys (first : List Int) : Option (List Int) :=
 spec_l18Keys_l8 first [] 0
def spec_l18Min (a : Int) (b : Int) : Option (Int) :=
 if (ltI b a) then
  some b
 else
  some a
mutual
def spec_SameNode (a : GNode) (b : GNode) : Option (Bool) :=
 if (neI a.Kind b.Kind) then
  some false
 else
  if (neS a.Pre b.Pre) then
   some false
  else
   if (neS a.Local b.Local) then
    some false
   else
    if (neS a.Uri b.Uri) then
     some false
    else
     if (neS a.Text b.Text) then
      some false
     else
      if (neI (lenL a.Decls) (lenL b.Decls)) then
       some false
      else
       if (neI (lenL a.Attrs) (lenL b.Attrs)) then
        some false
       else
        if (neI (lenL a.Kids) (lenL b.Kids)) then
         some false
        else
         spec_SameNode_l14 0 a b
 partial_fixpoint
def spec_SameNode_l56 (i6 : Int) (a : GNode) (b : GNode) : Option (Bool) :=
 if (ltI i6 (lenL a.Kids)) then
  getI a.Kids i6 >>= fun x26 =>
  getI b.Kids i6 >>= fun x27 =>
  spec_SameNode x26 x27 >>= fun r7 =>
  if r7 then
   spec_SameNode_l56 (addI i6 1) a b
  else
   some false
 else
  some true
 partial_fixpoint
def spec_SameNode_l35 (i5 : Int) (a : GNode) (b : GNode) : Option (Bool) :=
 if (ltI i5 (lenL a.Attrs)) then
  getI a.Attrs i5 >>= fun x22 =>
  getI b.Attrs i5 >>= fun x23 =>
  if (eqS x22.Pre x23.Pre && (eqS x22.Local x23.Local && (eqS x22.Uri x23.Uri && eqS x22.Val x23.Val))) then
   spec_SameNode_l35 (addI i5 1) a b
  else
   some false
 else
  spec_SameNode_l56 0 a b
 partial_fixpoint
def spec_SameNode_l14 (i3 : Int) (a : GNode) (b : GNode) : Option (Bool) :=
 if (ltI i3 (lenL a.Decls)) then
  getI a.Decls i3 >>= fun x14 =>
  getI b.Decls i3 >>= fun x15 =>
  if (eqS x14.Pre x15.Pre && eqS x14.Uri x15.Uri) then
   spec_SameNode_l14 (addI i3 1) a b
  else
   some false
 else
  spec_SameNode_l35 0 a b
 partial_fixpoint
end
mutual
def spec_l18Forest_j67 (a : List GNode) (fa : List Int) (b : List GNode) (fb : List Int) (td12 : List (List Int)) (x : Int) (x1 : Int) (fd14 : List (List Int)) (p4 : Int) (q9 : Int) (r61 : Int) (x385 : Bool) : Option (List (List Int)) :=
 if x385 then
  getI a (subI (addI x p4) 1) >>= fun x386 =>
  getI b (subI (addI x1 q9) 1) >>= fun x387 =>
  spec_SameNode x386 x387 >>= fun r62 =>
  if r62 then
   spec_l18Forest_j72 a fa b fb td12 x x1 fd14 p4 q9 r61 0
  else
   spec_l18Forest_j72 a fa b fb td12 x x1 fd14 p4 q9 r61 1
 else
  getI fa (subI (addI x p4) 1) >>= fun x394 =>
  getI fd14 (subI x394 x) >>= fun x395 =>
  getI fb (subI (addI x1 q9) 1) >>= fun x396 =>
  getI x395 (subI x396 x1) >>= fun x397 =>
  getI td12 (subI (addI x p4) 1) >>= fun x398 =>
  getI x398 (subI (addI x1 q9) 1) >>= fun x399 =>
  spec_l18Min (addI r61 1) (addI x397 x399) >>= fun r64 =>
  getI fd14 p4 >>= fun x400 =>
  getI x400 q9 >>= fun x401 =>
  spec_l18Forest_l51 a fa b fb td12 x x1 (fd14.set (Int.toNat p4) (x400.set (Int.toNat q9) r64)) p4 (addI q9 1)
 partial_fixpoint
def spec_l18Forest_j72 (a : List GNode) (fa : List Int) (b : List GNode) (fb : List Int) (td12 : List (List Int)) (x : Int) (x1 : Int) (fd14 : List (List Int)) (p4 : Int) (q9 : Int) (r61 : Int) (same15 : Int) : Option (List (List Int)) :=
 getI fd14 (subI p4 1) >>= fun x388 =>
 getI x388 (subI q9 1) >>= fun x389 =>
 spec_l18Min (addI r61 1) (addI x389 same15) >>= fun r63 =>
 getI td12 (subI (addI x p4) 1) >>= fun x390 =>
 getI x390 (subI (addI x1 q9) 1) >>= fun x391 =>
 getI fd14 p4 >>= fun x392 =>
 getI x392 q9 >>= fun x393 =>
 spec_l18Forest_l51 a fa b fb (td12.set (Int.toNat (subI (addI x p4) 1)) (x390.set (Int.toNat (subI (addI x1 q9) 1)) r63)) x x1 (fd14.set (Int.toNat p4) (x392.set (Int.toNat q9) r63)) p4 (addI q9 1)
 partial_fixpoint
def spec_l18Forest_l51 (a : List GNode) (fa : List Int) (b : List GNode) (fb : List Int) (td12 : List (List Int)) (x : Int) (x1 : Int) (fd14 : List (List Int)) (p4 : Int) (q9 : Int) : Option (List (List Int)) :=
 getI fd14 0 >>= fun x378 =>
 if (ltI q9 (lenL x378)) then
  getI fd14 (subI p4 1) >>= fun x379 =>
  getI x379 q9 >>= fun x380 =>
  getI fd14 p4 >>= fun x381 =>
  getI x381 (subI q9 1) >>= fun x382 =>
  spec_l18Min x380 x382 >>= fun r61 =>
  getI fa (subI (addI x p4) 1) >>= fun x383 =>
  if (eqI x383 x) then
   getI fb (subI (addI x1 q9) 1) >>= fun x384 =>
   spec_l18Forest_j67 a fa b fb td12 x x1 fd14 p4 q9 r61 (eqI x384 x1)
  else
   spec_l18Forest_j67 a fa b fb td12 x x1 fd14 p4 q9 r61 false
 else
  spec_l18Forest_l39 a fa b fb td12 x x1 fd14 (addI p4 1)
 partial_fixpoint
def spec_l18Forest_l39 (a : List GNode) (fa : List Int) (b : List GNode) (fb : List Int) (td11 : List (List Int)) (x : Int) (x1 : Int) (fd13 : List (List Int)) (p4 : Int) : Option (List (List Int)) :=
 if (ltI p4 (lenL fd13)) then
  spec_l18Forest_l51 a fa b fb td11 x x1 fd13 p4 1
 else
  some td11
 partial_fixpoint
end
def pc_spec_l18Forest_j67 := @spec_l18Forest_j67.mutual_partial_correctness
def spec_l18Forest_l25 (a : List GNode) (fa : List Int) (b : List GNode) (fb : List Int) (td : List (List Int)) (x : Int) (x1 : Int) (fd11 : List (List Int)) (q7 : Int) : Option (List (List Int)) :=
 getI fd11 0 >>= fun x303 =>
 if (ltI q7 (lenL x303)) then
  getI fd11 0 >>= fun x304 =>
  getI x304 q7 >>= fun x305 =>
  spec_l18Forest_l25 a fa b fb td x x1 (fd11.set (Int.toNat 0) (x304.set (Int.toNat q7) q7)) (addI q7 1)
 else
  spec_l18Forest_l39 a fa b fb td x x1 fd11 1
 partial_fixpoint
def pc_spec_l18Forest_l25 := @spec_l18Forest_l25.partial_correctness
def spec_l18Forest_l10 (a : List GNode) (fa : List Int) (b : List GNode) (fb : List Int) (td : List (List Int)) (x : Int) (x1 : Int) (fd7 : List (List Int)) (p2 : Int) : Option (List (List Int)) :=
 if (ltI p2 (lenL fd7)) then
  getI fd7 p2 >>= fun x202 =>
  getI x202 0 >>= fun x203 =>
  spec_l18Forest_l10 a fa b fb td x x1 (fd7.set (Int.toNat p2) (x202.set (Int.toNat 0) p2)) (addI p2 1)
 else
  spec_l18Forest_l25 a fa b fb td x x1 fd7 1
 partial_fixpoint
def pc_spec_l18Forest_l10 := @spec_l18Forest_l10.partial_correctness
def spec_l18Forest (a : List GNode) (fa : List Int) (b : List GNode) (fb : List Int) (i : Int) (j : Int) (td : List (List Int)) : Option (List (List Int)) :=
 getI fa i >>= fun x =>
 getI fb j >>= fun x1 =>
 spec_l18Grid (addI (subI i x) 2) (addI (subI j x1) 2) >>= fun r =>
 spec_l18Forest_l10 a fa b fb td x x1 r 1
mutual
def spec_Gap_l36 (r2 : List GNode × List Int) (r3 : List GNode × List Int) (td2 : List (List Int)) (r5 : List Int) (r6 : List Int) (i : Int) (k1 : Int) : Option (Int) :=
 if (ltI k1 (lenL r6)) then
  getI r5 i >>= fun x8 =>
  getI r6 k1 >>= fun x9 =>
  spec_l18Forest r2.1 r2.2 r3.1 r3.2 x8 x9 td2 >>= fun r10 =>
  sameL r10 td2 >>= fun _ =>
  spec_Gap_l36 r2 r3 r10 r5 r6 i (addI k1 1)
 else
  spec_Gap_l24 r2 r3 td2 r5 r6 (addI i 1)
 partial_fixpoint
def spec_Gap_l24 (r2 : List GNode × List Int) (r3 : List GNode × List Int) (td1 : List (List Int)) (r5 : List Int) (r6 : List Int) (i : Int) : Option (Int) :=
 if (ltI i (lenL r5)) then
  spec_Gap_l36 r2 r3 td1 r5 r6 i 0
 else
  getI td1 (subI (lenL r2.1) 1) >>= fun x10 =>
  getI x10 (subI (lenL r3.1) 1) >>= fun x11 =>
  some x11
 partial_fixpoint
end
def pc_spec_Gap_l36 := @spec_Gap_l36.mutual_partial_correctness
def spec_Gap (a : GNode) (b : GNode) : Option (Int) :=
 spec_Nodes a >>= fun r =>
 if (gtI r 12) then
  some (-1)
 else
  spec_Nodes b >>= fun r1 =>
  if (gtI r1 12) then
   some (-1)
  else
   spec_l18Post a 0 >>= fun r2 =>
   spec_l18Post b 0 >>= fun r3 =>
   spec_l18Grid (lenL r2.1) (lenL r3.1) >>= fun r4 =>
   spec_l18Keys r2.2 >>= fun r5 =>
   spec_l18Keys r3.2 >>= fun r6 =>
   spec_Gap_l24 r2 r3 r4 r5 r6 0
def laws_FnWayRound (code : List Int) : Option (Bool) :=
 laws_big code >>= fun r =>
 if r then
  some true
 else
  spec_DrawSmall code >>= fun r1 =>
  impl_Gap r1.1 r1.2.1 >>= fun r2 =>
  impl_Gap r1.2.1 r1.2.2 >>= fun r3 =>
  impl_Gap r1.1 r1.2.2 >>= fun r4 =>
  if (ltI r2 0) then
   some false
  else
   if (ltI r3 0) then
    some false
   else
    if (ltI r4 0) then
     some false
    else
     spec_Gap r1.1 r1.2.1 >>= fun r5 =>
     if (neI r2 r5) then
      some false
     else
      if (leI r4 (addI r2 r3)) then
       impl_Gap (GNode.mk 1 (⟨#[]⟩) (⟨#[122]⟩) (⟨#[]⟩) [] [] [r1.1] (⟨#[]⟩)) (GNode.mk 1 (⟨#[]⟩) (⟨#[122]⟩) (⟨#[]⟩) [] [] [r1.2.1] (⟨#[]⟩)) >>= fun r6 =>
       if (leI r6 r2) then
        impl_Gap r1.1 (GNode.mk 1 (⟨#[]⟩) (⟨#[122]⟩) (⟨#[]⟩) [] [] [r1.1] (⟨#[]⟩)) >>= fun r7 =>
        some (eqI r7 1)
       else
        some false
      else
       some false
end TT
