import Derived.Test.YtdpdfjkjlkmjaaaTTypes
set_option maxHeartbeats 2000000
set_option linter.unusedVariables false
set_option linter.unusedSimpArgs false
set_option linter.defProp false
set_option maxRecDepth 100000
namespace TT
open Go
def laws_szDecl (a : GDecl) (left : Int) : Option (Int) :=
 if (ltI (subI left (lenS a.Pre)) 0) then
  some (-1)
 else
  if (ltI (subI (subI left (lenS a.Pre)) (lenS a.Uri)) 0) then
   some (-1)
  else
   some (subI (subI left (lenS a.Pre)) (lenS a.Uri))
def laws_szDeclS_l16 (a : List GDecl) (left1 : Int) (i : Int) : Option (Int) :=
 if (ltI i (lenL a)) then
  getI a i >>= fun x1 =>
  laws_szDecl x1 left1 >>= fun r1 =>
  if (ltI r1 0) then
   some (-1)
  else
   laws_szDeclS_l16 a r1 (addI i 1)
 else
  some left1
 partial_fixpoint
def laws_szDeclS (a : List GDecl) (left : Int) : Option (Int) :=
 if (ltI (subI left (lenL a)) 0) then
  some (-1)
 else
  laws_szDeclS_l16 a (subI left (lenL a)) 0
def laws_szAttr (a : GAttr) (left : Int) : Option (Int) :=
 if (ltI (subI left (lenS a.Pre)) 0) then
  some (-1)
 else
  if (ltI (subI (subI left (lenS a.Pre)) (lenS a.Local)) 0) then
   some (-1)
  else
   if (ltI (subI (subI (subI left (lenS a.Pre)) (lenS a.Local)) (lenS a.Uri)) 0) then
    some (-1)
   else
    if (ltI (subI (subI (subI (subI left (lenS a.Pre)) (lenS a.Local)) (lenS a.Uri)) (lenS a.Val)) 0) then
     some (-1)
    else
     some (subI (subI (subI (subI left (lenS a.Pre)) (lenS a.Local)) (lenS a.Uri)) (lenS a.Val))
def laws_szAttrS_l16 (a : List GAttr) (left1 : Int) (i : Int) : Option (Int) :=
 if (ltI i (lenL a)) then
  getI a i >>= fun x1 =>
  laws_szAttr x1 left1 >>= fun r1 =>
  if (ltI r1 0) then
   some (-1)
  else
   laws_szAttrS_l16 a r1 (addI i 1)
 else
  some left1
 partial_fixpoint
def laws_szAttrS (a : List GAttr) (left : Int) : Option (Int) :=
 if (ltI (subI left (lenL a)) 0) then
  some (-1)
 else
  laws_szAttrS_l16 a (subI left (lenL a)) 0
mutual
def laws_szNode (a : GNode) (left : Int) : Option (Int) :=
 if (ltI (subI left (lenS a.Pre)) 0) then
  some (-1)
 else
  if (ltI (subI (subI left (lenS a.Pre)) (lenS a.Local)) 0) then
   some (-1)
  else
   if (ltI (subI (subI (subI left (lenS a.Pre)) (lenS a.Local)) (lenS a.Uri)) 0) then
    some (-1)
   else
    laws_szDeclS a.Decls (subI (subI (subI left (lenS a.Pre)) (lenS a.Local)) (lenS a.Uri)) >>= fun r =>
    if (ltI r 0) then
     some (-1)
    else
     laws_szAttrS a.Attrs r >>= fun r1 =>
     if (ltI r1 0) then
      some (-1)
     else
      laws_szNodeS a.Kids r1 >>= fun r2 =>
      if (ltI r2 0) then
       some (-1)
      else
       if (ltI (subI r2 (lenS a.Text)) 0) then
        some (-1)
       else
        some (subI r2 (lenS a.Text))
 partial_fixpoint
def laws_szNodeS (a : List GNode) (left : Int) : Option (Int) :=
 if (ltI (subI left (lenL a)) 0) then
  some (-1)
 else
  laws_szNodeS_l16 a (subI left (lenL a)) 0
 partial_fixpoint
def laws_szNodeS_l16 (a : List GNode) (left1 : Int) (i : Int) : Option (Int) :=
 if (ltI i (lenL a)) then
  getI a i >>= fun x1 =>
  laws_szNode x1 left1 >>= fun r1 =>
  if (ltI r1 0) then
   some (-1)
  else
   laws_szNodeS_l16 a r1 (addI i 1)
 else
  some left1
 partial_fixpoint
end
def laws_toDecl (a : GDecl) : Option (GDecl) :=
 some a
def laws_toDeclS_l8 (a : List GDecl) (out : List (GDecl)) (i : Int) : Option (List GDecl) :=
 if (ltI i (lenL a)) then
  getI a i >>= fun x2 =>
  laws_toDecl x2 >>= fun r1 =>
  getI out i >>= fun x3 =>
  laws_toDeclS_l8 a (out.set (Int.toNat i) r1) (addI i 1)
 else
  some out
 partial_fixpoint
def laws_toDeclS (a : List GDecl) : Option (List GDecl) :=
 mkN (lenL a) 32 >>= fun m =>
 laws_toDeclS_l8 a (List.replicate m (GDecl.mk ⟨#[]⟩ ⟨#[]⟩)) 0
def laws_toAttr (a : GAttr) : Option (GAttr) :=
 some a
def laws_toAttrS_l8 (a : List GAttr) (out : List (GAttr)) (i : Int) : Option (List GAttr) :=
 if (ltI i (lenL a)) then
  getI a i >>= fun x2 =>
  laws_toAttr x2 >>= fun r1 =>
  getI out i >>= fun x3 =>
  laws_toAttrS_l8 a (out.set (Int.toNat i) r1) (addI i 1)
 else
  some out
 partial_fixpoint
def laws_toAttrS (a : List GAttr) : Option (List GAttr) :=
 mkN (lenL a) 64 >>= fun m =>
 laws_toAttrS_l8 a (List.replicate m (GAttr.mk ⟨#[]⟩ ⟨#[]⟩ ⟨#[]⟩ ⟨#[]⟩)) 0
mutual
def laws_toNode (a : GNode) : Option (GNode) :=
 laws_toDeclS a.Decls >>= fun r =>
 laws_toAttrS a.Attrs >>= fun r1 =>
 laws_toNodeS a.Kids >>= fun r2 =>
 some (GNode.mk a.Kind a.Pre a.Local a.Uri r r1 r2 a.Text)
 partial_fixpoint
def laws_toNodeS (a : List GNode) : Option (List GNode) :=
 mkN (lenL a) 144 >>= fun m =>
 laws_toNodeS_l8 a (List.replicate m (GNode.mk 0 ⟨#[]⟩ ⟨#[]⟩ ⟨#[]⟩ [] [] [] ⟨#[]⟩)) 0
 partial_fixpoint
def laws_toNodeS_l8 (a : List GNode) (out : List (GNode)) (i : Int) : Option (List GNode) :=
 if (ltI i (lenL a)) then
  getI a i >>= fun x2 =>
  laws_toNode x2 >>= fun r1 =>
  getI out i >>= fun x3 =>
  laws_toNodeS_l8 a (out.set (Int.toNat i) r1) (addI i 1)
 else
  some out
 partial_fixpoint
end
def laws_toIntS_l8 (a : List Int) (out : List (Int)) (i : Int) : Option (List Int) :=
 if (ltI i (lenL a)) then
  getI a i >>= fun x2 =>
  getI out i >>= fun x3 =>
  laws_toIntS_l8 a (out.set (Int.toNat i) x2) (addI i 1)
 else
  some out
 partial_fixpoint
def laws_toIntS (a : List Int) : Option (List Int) :=
 mkN (lenL a) 8 >>= fun m =>
 laws_toIntS_l8 a (List.replicate m 0) 0
mutual
def spec_l5All (l : List GNode) : Option (List GNode) :=
 spec_l5All_l8 l [] 0
 partial_fixpoint
def spec_l5All_l8 (l : List GNode) (out : List (GNode)) (i : Int) : Option (List GNode) :=
 if (ltI i (lenL l)) then
  getI l i >>= fun x1 =>
  spec_l5Copy x1 >>= fun r1 =>
  room (out.length + 1) 144 >>= fun x_1 =>
  spec_l5All_l8 l (out ++ [r1]) (addI i 1)
 else
  some out
 partial_fixpoint
def spec_l5Copy (n : GNode) : Option (GNode) :=
 room (0 + n.Decls.length) 32 >>= fun x_ =>
 room (0 + n.Attrs.length) 64 >>= fun x_1 =>
 spec_l5All n.Kids >>= fun r =>
 some (GNode.mk n.Kind n.Pre n.Local n.Uri ([] ++ n.Decls) ([] ++ n.Attrs) r n.Text)
 partial_fixpoint
end
def spec_l1In (a0 : Int) (least : Int) (most : Int) : Option (Bool) :=
 if (geI a0 least) then
  some (leI a0 most)
 else
  some false
def spec_NodeAt_l8 (path : List Int) (i : Int) (x2 : GNode) : Option (GNode × Bool) :=
 if (ltI i (lenL path)) then
  getI path i >>= fun x3 =>
  spec_l1In x3 0 (subI (lenL x2.Kids) 1) >>= fun r2 =>
  if r2 then
   getI x2.Kids x3 >>= fun x4 =>
   spec_NodeAt_l8 path (addI i 1) x4
  else
   some ((GNode.mk 0 (⟨#[]⟩) (⟨#[]⟩) (⟨#[]⟩) [] [] [] (⟨#[]⟩)), false)
 else
  spec_l5Copy x2 >>= fun r3 =>
  some (r3, true)
 partial_fixpoint
def spec_NodeAt (n : GNode) (path : List Int) : Option (GNode × Bool) :=
 spec_NodeAt_l8 path 0 n
mutual
def spec_Merge_j29 (l : List GNode) (out : List (GNode)) (i : Int) (x8 : Bool) (x6 : GNode) : Option (List GNode) :=
 if x8 then
  getI out (subI (lenL out) 1) >>= fun x9 =>
  catS x9.Text x6.Text >>= fun x10 =>
  getI out (subI (lenL out) 1) >>= fun x11 =>
  spec_Merge_l8 l (out.set (Int.toNat (subI (lenL out) 1)) (GNode.mk x11.Kind x11.Pre x11.Local x11.Uri x11.Decls x11.Attrs x11.Kids x10)) (addI i 1)
 else
  spec_l5Copy x6 >>= fun r2 =>
  room (out.length + 1) 144 >>= fun x_2 =>
  spec_Merge_l8 l (out ++ [r2]) (addI i 1)
 partial_fixpoint
def spec_Merge_l8 (l : List GNode) (out : List (GNode)) (i : Int) : Option (List GNode) :=
 if (ltI i (lenL l)) then
  getI l i >>= fun x6 =>
  if (eqI x6.Kind 2) then
   if (eqS x6.Text (⟨#[]⟩)) then
    spec_Merge_l8 l out (addI i 1)
   else
    if (gtI (lenL out) 0) then
     getI out (subI (lenL out) 1) >>= fun x7 =>
     spec_Merge_j29 l out i (eqI x7.Kind 2) x6
    else
     spec_Merge_j29 l out i false x6
  else
   spec_l5Copy x6 >>= fun r3 =>
   room (out.length + 1) 144 >>= fun x_3 =>
   spec_Merge_l8 l (out ++ [r3]) (addI i 1)
 else
  some out
 partial_fixpoint
end
def spec_Merge (l : List GNode) : Option (List GNode) :=
 spec_Merge_l8 l [] 0
def spec_l10Turn (n : GNode) (path : List Int) (from1 : Int) (to1 : Int) (l : List GNode) : Option (GNode) :=
 if (eqI (lenL path) 0) then
  slL n.Kids 0 from1 >>= fun x =>
  room (0 + x.length) 144 >>= fun x_ =>
  room ((0 + x.length) + l.length) 144 >>= fun x_1 =>
  slL n.Kids to1 (lenL n.Kids) >>= fun x1 =>
  room (((0 + x.length) + l.length) + x1.length) 144 >>= fun x_2 =>
  spec_Merge ((([] ++ x) ++ l) ++ x1) >>= fun r =>
  some (GNode.mk n.Kind n.Pre n.Local n.Uri n.Decls n.Attrs r n.Text)
 else
  room (0 + n.Kids.length) 144 >>= fun x_3 =>
  getI path 0 >>= fun x2 =>
  getI n.Kids x2 >>= fun x3 =>
  slL path 1 (lenL path) >>= fun x4 =>
  spec_l10Turn x3 x4 from1 to1 l >>= fun r1 =>
  getI ([] ++ n.Kids) x2 >>= fun x5 =>
  some (GNode.mk n.Kind n.Pre n.Local n.Uri n.Decls n.Attrs (([] ++ n.Kids).set (Int.toNat x2) r1) n.Text)
 partial_fixpoint
def spec_PutAt (n : GNode) (path : List Int) (l : List GNode) : Option (GNode × Bool) :=
 if (eqI (lenL path) 0) then
  spec_l5Copy n >>= fun r =>
  some (r, false)
 else
  spec_NodeAt n path >>= fun r1 =>
  if r1.2 then
   getI path (subI (lenL path) 1) >>= fun x =>
   slL path 0 (subI (lenL path) 1) >>= fun x1 =>
   spec_l10Turn n x1 x (addI x 1) l >>= fun r3 =>
   spec_l5Copy r3 >>= fun r4 =>
   some (r4, true)
  else
   spec_l5Copy n >>= fun r2 =>
   some (r2, false)
def impl_in (n : Int) (lo : Int) (hi : Int) : Option (Bool) :=
 if (geI n lo) then
  some (leI n hi)
 else
  some false
def slices_Clone_Decl (s : List (GDecl)) : Option (List GDecl) :=
 room s.length 32 >>= fun _ => some s
def slices_Clone_Attr (s : List (GAttr)) : Option (List GAttr) :=
 room s.length 64 >>= fun _ => some s
mutual
def impl_cloneNode (n : GNode) : Option (GNode) :=
 slices_Clone_Decl n.Decls >>= fun r =>
 slices_Clone_Attr n.Attrs >>= fun r1 =>
 impl_cloneNodes n.Kids >>= fun r2 =>
 some (GNode.mk n.Kind n.Pre n.Local n.Uri r r1 r2 n.Text)
 partial_fixpoint
def impl_cloneNodes (l : List GNode) : Option (List GNode) :=
 impl_cloneNodes_l8 [] l 0
 partial_fixpoint
def impl_cloneNodes_l8 (out : List (GNode)) (l : List GNode) (x1 : Int) : Option (List GNode) :=
 if (ltI x1 (lenL l)) then
  getI l x1 >>= fun x2 =>
  impl_cloneNode x2 >>= fun r1 =>
  room (out.length + 1) 144 >>= fun x_1 =>
  impl_cloneNodes_l8 (out ++ [r1]) l (addI x1 1)
 else
  some out
 partial_fixpoint
end
def impl_NodeAt_l6 (path : List Int) (x2 : Int) (n1 : GNode) : Option (GNode × Bool) :=
 if (ltI x2 (lenL path)) then
  getI path x2 >>= fun x3 =>
  impl_in x3 0 (subI (lenL n1.Kids) 1) >>= fun r2 =>
  if r2 then
   getI n1.Kids x3 >>= fun x4 =>
   impl_NodeAt_l6 path (addI x2 1) x4
  else
   some ((GNode.mk 0 (⟨#[]⟩) (⟨#[]⟩) (⟨#[]⟩) [] [] [] (⟨#[]⟩)), false)
 else
  impl_cloneNode n1 >>= fun r3 =>
  some (r3, true)
 partial_fixpoint
def impl_NodeAt (n : GNode) (path : List Int) : Option (GNode × Bool) :=
 impl_NodeAt_l6 path 0 n
def slices_Concat_Node (s : List (List (GNode))) : Option (List GNode) :=
 match s with | [l, m, q] => if (l.length + m.length + q.length) * 144 ≤ 140737488351232 ∧ l.length + m.length + q.length ≤ 1000000000000 then some (l ++ m ++ q) else none | _ => none
mutual
def impl_Merge_j22 (out : List (GNode)) (l : List GNode) (x7 : Int) (x9 : Bool) (x8 : GNode) : Option (List GNode) :=
 if x9 then
  impl_Merge_l8 out l (addI x7 1)
 else
  if (eqI x8.Kind 2) then
   if (gtI (lenL out) 0) then
    getI out (subI (lenL out) 1) >>= fun x10 =>
    impl_Merge_j26 out l x7 (eqI x10.Kind 2) x8
   else
    impl_Merge_j26 out l x7 false x8
  else
   impl_Merge_j26 out l x7 false x8
 partial_fixpoint
def impl_Merge_j26 (out : List (GNode)) (l : List GNode) (x7 : Int) (x11 : Bool) (x8 : GNode) : Option (List GNode) :=
 if x11 then
  getI out (subI (lenL out) 1) >>= fun x12 =>
  catS x12.Text x8.Text >>= fun x13 =>
  getI out (subI (lenL out) 1) >>= fun x14 =>
  impl_Merge_l8 (out.set (Int.toNat (subI (lenL out) 1)) (GNode.mk x14.Kind x14.Pre x14.Local x14.Uri x14.Decls x14.Attrs x14.Kids x13)) l (addI x7 1)
 else
  impl_cloneNode x8 >>= fun r1 =>
  room (out.length + 1) 144 >>= fun x_1 =>
  impl_Merge_l8 (out ++ [r1]) l (addI x7 1)
 partial_fixpoint
def impl_Merge_l8 (out : List (GNode)) (l : List GNode) (x7 : Int) : Option (List GNode) :=
 if (ltI x7 (lenL l)) then
  getI l x7 >>= fun x8 =>
  if (eqI x8.Kind 2) then
   impl_Merge_j22 out l x7 (eqS x8.Text (⟨#[]⟩)) x8
  else
   impl_Merge_j22 out l x7 false x8
 else
  some out
 partial_fixpoint
end
def impl_Merge (l : List GNode) : Option (List GNode) :=
 impl_Merge_l8 [] l 0
def impl_spliced (l : List GNode) (from1 : Int) (to1 : Int) (more : List GNode) : Option (List GNode) :=
 slL l 0 from1 >>= fun x =>
 slL l to1 (lenL l) >>= fun x1 =>
 slices_Concat_Node [x, more, x1] >>= fun r =>
 impl_Merge r >>= fun r1 =>
 some r1
def impl_PutAt_1_PP' (a0 : GNode) (a1 : Int) (a2 : List GNode) : Option (GNode) :=
 impl_spliced a0.Kids a1 (addI a1 1) a2 >>= fun r =>
 some (GNode.mk a0.Kind a0.Pre a0.Local a0.Uri a0.Decls a0.Attrs r a0.Text)
def impl_turnedAt_PutAt_1 (n : GNode) (path : List Int) (turnc0 : Int) (turnc1 : List GNode) : Option (GNode) :=
 impl_cloneNode n >>= fun r =>
 if (eqI (lenL path) 0) then
  impl_PutAt_1_PP' r turnc0 turnc1 >>= fun r1 =>
  some r1
 else
  getI path 0 >>= fun x =>
  getI r.Kids x >>= fun x1 =>
  slL path 1 (lenL path) >>= fun x2 =>
  impl_turnedAt_PutAt_1 x1 x2 turnc0 turnc1 >>= fun r2 =>
  getI r.Kids x >>= fun x3 =>
  some (GNode.mk r.Kind r.Pre r.Local r.Uri r.Decls r.Attrs (r.Kids.set (Int.toNat x) r2) r.Text)
 partial_fixpoint
def impl_PutAt (n : GNode) (path : List Int) (l : List GNode) : Option (GNode × Bool) :=
 impl_NodeAt n path >>= fun r =>
 if r.2 then
  if (eqI (lenL path) 0) then
   impl_cloneNode n >>= fun r1 =>
   some (r1, false)
  else
   getI path (subI (lenL path) 1) >>= fun x =>
   slL path 0 (subI (lenL path) 1) >>= fun x1 =>
   impl_turnedAt_PutAt_1 n x1 x l >>= fun r2 =>
   some (r2, true)
 else
  impl_cloneNode n >>= fun r3 =>
  some (r3, false)
def laws_eqDecl (a : GDecl) (b : GDecl) : Option (Bool) :=
 if (neS a.Pre b.Pre) then
  some false
 else
  if (neS a.Uri b.Uri) then
   some false
  else
   some true
def laws_eqDeclS_l14 (a : List GDecl) (b : List GDecl) (i : Int) : Option (Bool) :=
 if (ltI i (lenL a)) then
  getI a i >>= fun x2 =>
  getI b i >>= fun x3 =>
  laws_eqDecl x2 x3 >>= fun r1 =>
  if r1 then
   laws_eqDeclS_l14 a b (addI i 1)
  else
   some false
 else
  some true
 partial_fixpoint
def laws_eqDeclS (a : List GDecl) (b : List GDecl) : Option (Bool) :=
 if (neI (lenL a) (lenL b)) then
  some false
 else
  laws_eqDeclS_l14 a b 0
def laws_eqAttr (a : GAttr) (b : GAttr) : Option (Bool) :=
 if (neS a.Pre b.Pre) then
  some false
 else
  if (neS a.Local b.Local) then
   some false
  else
   if (neS a.Uri b.Uri) then
    some false
   else
    if (neS a.Val b.Val) then
     some false
    else
     some true
def laws_eqAttrS_l14 (a : List GAttr) (b : List GAttr) (i : Int) : Option (Bool) :=
 if (ltI i (lenL a)) then
  getI a i >>= fun x2 =>
  getI b i >>= fun x3 =>
  laws_eqAttr x2 x3 >>= fun r1 =>
  if r1 then
   laws_eqAttrS_l14 a b (addI i 1)
  else
   some false
 else
  some true
 partial_fixpoint
def laws_eqAttrS (a : List GAttr) (b : List GAttr) : Option (Bool) :=
 if (neI (lenL a) (lenL b)) then
  some false
 else
  laws_eqAttrS_l14 a b 0
mutual
def laws_eqNode (a : GNode) (b : GNode) : Option (Bool) :=
 if (neI a.Kind b.Kind) then
  some false
 else
  if (neS a.Pre b.Pre) then
   some false
  else
   if (neS a.Local b.Local) then
    some false
   else
    if (neS a.Uri b.Uri) then
     some false
    else
     laws_eqDeclS a.Decls b.Decls >>= fun r =>
     if r then
      laws_eqAttrS a.Attrs b.Attrs >>= fun r1 =>
      if r1 then
       laws_eqNodeS a.Kids b.Kids >>= fun r2 =>
       if r2 then
        if (neS a.Text b.Text) then
         some false
        else
         some true
       else
        some false
      else
       some false
     else
      some false
 partial_fixpoint
def laws_eqNodeS (a : List GNode) (b : List GNode) : Option (Bool) :=
 if (neI (lenL a) (lenL b)) then
  some false
 else
  laws_eqNodeS_l14 a b 0
 partial_fixpoint
def laws_eqNodeS_l14 (a : List GNode) (b : List GNode) (i : Int) : Option (Bool) :=
 if (ltI i (lenL a)) then
  getI a i >>= fun x2 =>
  getI b i >>= fun x3 =>
  laws_eqNode x2 x3 >>= fun r1 =>
  if r1 then
   laws_eqNodeS_l14 a b (addI i 1)
  else
   some false
 else
  some true
 partial_fixpoint
end
def laws_eqIntS_l14 (a : List Int) (b : List Int) (i : Int) : Option (Bool) :=
 if (ltI i (lenL a)) then
  getI a i >>= fun x2 =>
  getI b i >>= fun x3 =>
  if (neI x2 x3) then
   some false
  else
   laws_eqIntS_l14 a b (addI i 1)
 else
  some true
 partial_fixpoint
def laws_eqIntS (a : List Int) (b : List Int) : Option (Bool) :=
 if (neI (lenL a) (lenL b)) then
  some false
 else
  laws_eqIntS_l14 a b 0
def laws_markText_l14 (k1 : Int) (out : ByteArray) : Option (ByteArray) :=
 if (gtI k1 0) then
  remI k1 10 >>= fun x4 =>
  catS (⟨([UInt8.ofNat ((wr .u8 (addI 48 x4))).toNat]).toArray⟩) out >>= fun x5 =>
  quoI k1 10 >>= fun x6 =>
  laws_markText_l14 x6 x5
 else
  catS (⟨#[109]⟩) out >>= fun x7 =>
  some x7
 partial_fixpoint
def laws_markText (k : Int) : Option (ByteArray) :=
 if (leI k 0) then
  some (⟨#[109, 48]⟩)
 else
  laws_markText_l14 k (⟨#[]⟩)
def laws_markDeclS_l6 (a1 : List (GDecl)) (k1 : Int) (i : Int) : Option (Int × List (GDecl)) :=
 if (ltI i (lenL a1)) then
  laws_markText k1 >>= fun r2 =>
  getI a1 i >>= fun x2 =>
  laws_markText (addI k1 1) >>= fun r3 =>
  getI (a1.set (Int.toNat i) (GDecl.mk r2 x2.Uri)) i >>= fun x3 =>
  laws_markDeclS_l6 ((a1.set (Int.toNat i) (GDecl.mk r2 x2.Uri)).set (Int.toNat i) (GDecl.mk x3.Pre r3)) (addI (addI k1 1) 1) (addI i 1)
 else
  some (k1, a1)
 partial_fixpoint
def laws_markDeclS (a : List (GDecl)) (k : Int) : Option (Int × List (GDecl)) :=
 laws_markDeclS_l6 a k 0
def laws_markAttrS_l6 (a1 : List (GAttr)) (k1 : Int) (i : Int) : Option (Int × List (GAttr)) :=
 if (ltI i (lenL a1)) then
  laws_markText k1 >>= fun r4 =>
  getI a1 i >>= fun x4 =>
  laws_markText (addI k1 1) >>= fun r5 =>
  getI (a1.set (Int.toNat i) (GAttr.mk r4 x4.Local x4.Uri x4.Val)) i >>= fun x5 =>
  laws_markText (addI (addI k1 1) 1) >>= fun r6 =>
  getI ((a1.set (Int.toNat i) (GAttr.mk r4 x4.Local x4.Uri x4.Val)).set (Int.toNat i) (GAttr.mk x5.Pre r5 x5.Uri x5.Val)) i >>= fun x6 =>
  laws_markText (addI (addI (addI k1 1) 1) 1) >>= fun r7 =>
  getI (((a1.set (Int.toNat i) (GAttr.mk r4 x4.Local x4.Uri x4.Val)).set (Int.toNat i) (GAttr.mk x5.Pre r5 x5.Uri x5.Val)).set (Int.toNat i) (GAttr.mk x6.Pre x6.Local r6 x6.Val)) i >>= fun x7 =>
  laws_markAttrS_l6 ((((a1.set (Int.toNat i) (GAttr.mk r4 x4.Local x4.Uri x4.Val)).set (Int.toNat i) (GAttr.mk x5.Pre r5 x5.Uri x5.Val)).set (Int.toNat i) (GAttr.mk x6.Pre x6.Local r6 x6.Val)).set (Int.toNat i) (GAttr.mk x7.Pre x7.Local x7.Uri r7)) (addI (addI (addI (addI k1 1) 1) 1) 1) (addI i 1)
 else
  some (k1, a1)
 partial_fixpoint
def laws_markAttrS (a : List (GAttr)) (k : Int) : Option (Int × List (GAttr)) :=
 laws_markAttrS_l6 a k 0
mutual
def laws_markNodeS (a : List (GNode)) (k : Int) : Option (Int × List (GNode)) :=
 laws_markNodeS_l6 a k 0
 partial_fixpoint
def laws_markNodeS_l6 (a1 : List (GNode)) (k1 : Int) (i : Int) : Option (Int × List (GNode)) :=
 if (ltI i (lenL a1)) then
  getI a1 i >>= fun x8 =>
  laws_markText (addI k1 1) >>= fun r7 =>
  getI (a1.set (Int.toNat i) (GNode.mk k1 x8.Pre x8.Local x8.Uri x8.Decls x8.Attrs x8.Kids x8.Text)) i >>= fun x9 =>
  laws_markText (addI (addI k1 1) 1) >>= fun r8 =>
  getI ((a1.set (Int.toNat i) (GNode.mk k1 x8.Pre x8.Local x8.Uri x8.Decls x8.Attrs x8.Kids x8.Text)).set (Int.toNat i) (GNode.mk x9.Kind r7 x9.Local x9.Uri x9.Decls x9.Attrs x9.Kids x9.Text)) i >>= fun x10 =>
  laws_markText (addI (addI (addI k1 1) 1) 1) >>= fun r9 =>
  getI (((a1.set (Int.toNat i) (GNode.mk k1 x8.Pre x8.Local x8.Uri x8.Decls x8.Attrs x8.Kids x8.Text)).set (Int.toNat i) (GNode.mk x9.Kind r7 x9.Local x9.Uri x9.Decls x9.Attrs x9.Kids x9.Text)).set (Int.toNat i) (GNode.mk x10.Kind x10.Pre r8 x10.Uri x10.Decls x10.Attrs x10.Kids x10.Text)) i >>= fun x11 =>
  getI ((((a1.set (Int.toNat i) (GNode.mk k1 x8.Pre x8.Local x8.Uri x8.Decls x8.Attrs x8.Kids x8.Text)).set (Int.toNat i) (GNode.mk x9.Kind r7 x9.Local x9.Uri x9.Decls x9.Attrs x9.Kids x9.Text)).set (Int.toNat i) (GNode.mk x10.Kind x10.Pre r8 x10.Uri x10.Decls x10.Attrs x10.Kids x10.Text)).set (Int.toNat i) (GNode.mk x11.Kind x11.Pre x11.Local r9 x11.Decls x11.Attrs x11.Kids x11.Text)) i >>= fun x12 =>
  laws_markDeclS x12.Decls (addI (addI (addI (addI k1 1) 1) 1) 1) >>= fun r10 =>
  getI (((((a1.set (Int.toNat i) (GNode.mk k1 x8.Pre x8.Local x8.Uri x8.Decls x8.Attrs x8.Kids x8.Text)).set (Int.toNat i) (GNode.mk x9.Kind r7 x9.Local x9.Uri x9.Decls x9.Attrs x9.Kids x9.Text)).set (Int.toNat i) (GNode.mk x10.Kind x10.Pre r8 x10.Uri x10.Decls x10.Attrs x10.Kids x10.Text)).set (Int.toNat i) (GNode.mk x11.Kind x11.Pre x11.Local r9 x11.Decls x11.Attrs x11.Kids x11.Text)).set (Int.toNat i) (GNode.mk x12.Kind x12.Pre x12.Local x12.Uri r10.2 x12.Attrs x12.Kids x12.Text)) i >>= fun x13 =>
  laws_markAttrS x13.Attrs r10.1 >>= fun r11 =>
  getI ((((((a1.set (Int.toNat i) (GNode.mk k1 x8.Pre x8.Local x8.Uri x8.Decls x8.Attrs x8.Kids x8.Text)).set (Int.toNat i) (GNode.mk x9.Kind r7 x9.Local x9.Uri x9.Decls x9.Attrs x9.Kids x9.Text)).set (Int.toNat i) (GNode.mk x10.Kind x10.Pre r8 x10.Uri x10.Decls x10.Attrs x10.Kids x10.Text)).set (Int.toNat i) (GNode.mk x11.Kind x11.Pre x11.Local r9 x11.Decls x11.Attrs x11.Kids x11.Text)).set (Int.toNat i) (GNode.mk x12.Kind x12.Pre x12.Local x12.Uri r10.2 x12.Attrs x12.Kids x12.Text)).set (Int.toNat i) (GNode.mk x13.Kind x13.Pre x13.Local x13.Uri x13.Decls r11.2 x13.Kids x13.Text)) i >>= fun x14 =>
  laws_markNodeS x14.Kids r11.1 >>= fun r12 =>
  laws_markText r12.1 >>= fun r13 =>
  getI (((((((a1.set (Int.toNat i) (GNode.mk k1 x8.Pre x8.Local x8.Uri x8.Decls x8.Attrs x8.Kids x8.Text)).set (Int.toNat i) (GNode.mk x9.Kind r7 x9.Local x9.Uri x9.Decls x9.Attrs x9.Kids x9.Text)).set (Int.toNat i) (GNode.mk x10.Kind x10.Pre r8 x10.Uri x10.Decls x10.Attrs x10.Kids x10.Text)).set (Int.toNat i) (GNode.mk x11.Kind x11.Pre x11.Local r9 x11.Decls x11.Attrs x11.Kids x11.Text)).set (Int.toNat i) (GNode.mk x12.Kind x12.Pre x12.Local x12.Uri r10.2 x12.Attrs x12.Kids x12.Text)).set (Int.toNat i) (GNode.mk x13.Kind x13.Pre x13.Local x13.Uri x13.Decls r11.2 x13.Kids x13.Text)).set (Int.toNat i) (GNode.mk x14.Kind x14.Pre x14.Local x14.Uri x14.Decls x14.Attrs r12.2 x14.Text)) i >>= fun x15 =>
  laws_markNodeS_l6 ((((((((a1.set (Int.toNat i) (GNode.mk k1 x8.Pre x8.Local x8.Uri x8.Decls x8.Attrs x8.Kids x8.Text)).set (Int.toNat i) (GNode.mk x9.Kind r7 x9.Local x9.Uri x9.Decls x9.Attrs x9.Kids x9.Text)).set (Int.toNat i) (GNode.mk x10.Kind x10.Pre r8 x10.Uri x10.Decls x10.Attrs x10.Kids x10.Text)).set (Int.toNat i) (GNode.mk x11.Kind x11.Pre x11.Local r9 x11.Decls x11.Attrs x11.Kids x11.Text)).set (Int.toNat i) (GNode.mk x12.Kind x12.Pre x12.Local x12.Uri r10.2 x12.Attrs x12.Kids x12.Text)).set (Int.toNat i) (GNode.mk x13.Kind x13.Pre x13.Local x13.Uri x13.Decls r11.2 x13.Kids x13.Text)).set (Int.toNat i) (GNode.mk x14.Kind x14.Pre x14.Local x14.Uri x14.Decls x14.Attrs r12.2 x14.Text)).set (Int.toNat i) (GNode.mk x15.Kind x15.Pre x15.Local x15.Uri x15.Decls x15.Attrs x15.Kids r13)) (addI r12.1 1) (addI i 1)
 else
  some (k1, a1)
 partial_fixpoint
end
def laws_markNode (a : GNode) (k : Int) : Option (Int × List GDecl × List GAttr × List GNode) :=
 laws_markDeclS a.Decls k >>= fun r =>
 sameL r.2 a.Decls >>= fun _ =>
 laws_markAttrS a.Attrs r.1 >>= fun r1 =>
 sameL r1.2 a.Attrs >>= fun _ =>
 laws_markNodeS a.Kids r1.1 >>= fun r2 =>
 sameL r2.2 a.Kids >>= fun _ =>
 some (r2.1, r.2, r1.2, r2.2)
def laws_markIntS_l6 (a1 : List (Int)) (k1 : Int) (i : Int) : Option (Int × List (Int)) :=
 if (ltI i (lenL a1)) then
  getI a1 i >>= fun x1 =>
  laws_markIntS_l6 (a1.set (Int.toNat i) k1) (addI k1 1) (addI i 1)
 else
  some (k1, a1)
 partial_fixpoint
def laws_markIntS (a : List (Int)) (k : Int) : Option (Int × List (Int)) :=
 laws_markIntS_l6 a k 0
def laws_heldDeclS_l6 (a : List GDecl) (k1 : Int) (i : Int) : Option (Int) :=
 if (ltI i (lenL a)) then
  getI a i >>= fun x1 =>
  laws_markText k1 >>= fun r2 =>
  if (neS x1.Pre r2) then
   some (-1)
  else
   laws_markText (addI k1 1) >>= fun r3 =>
   if (neS x1.Uri r3) then
    some (-1)
   else
    laws_heldDeclS_l6 a (addI (addI k1 1) 1) (addI i 1)
 else
  some k1
 partial_fixpoint
def laws_heldDeclS (a : List GDecl) (k : Int) : Option (Int) :=
 laws_heldDeclS_l6 a k 0
def laws_heldAttrS_l6 (a : List GAttr) (k1 : Int) (i : Int) : Option (Int) :=
 if (ltI i (lenL a)) then
  getI a i >>= fun x1 =>
  laws_markText k1 >>= fun r4 =>
  if (neS x1.Pre r4) then
   some (-1)
  else
   laws_markText (addI k1 1) >>= fun r5 =>
   if (neS x1.Local r5) then
    some (-1)
   else
    laws_markText (addI (addI k1 1) 1) >>= fun r6 =>
    if (neS x1.Uri r6) then
     some (-1)
    else
     laws_markText (addI (addI (addI k1 1) 1) 1) >>= fun r7 =>
     if (neS x1.Val r7) then
      some (-1)
     else
      laws_heldAttrS_l6 a (addI (addI (addI (addI k1 1) 1) 1) 1) (addI i 1)
 else
  some k1
 partial_fixpoint
def laws_heldAttrS (a : List GAttr) (k : Int) : Option (Int) :=
 laws_heldAttrS_l6 a k 0
mutual
def laws_heldNodeS (a : List GNode) (k : Int) : Option (Int) :=
 laws_heldNodeS_l6 a k 0
 partial_fixpoint
def laws_heldNodeS_l6 (a : List GNode) (k1 : Int) (i : Int) : Option (Int) :=
 if (ltI i (lenL a)) then
  getI a i >>= fun x1 =>
  if (neI x1.Kind k1) then
   some (-1)
  else
   laws_markText (addI k1 1) >>= fun r7 =>
   if (neS x1.Pre r7) then
    some (-1)
   else
    laws_markText (addI (addI k1 1) 1) >>= fun r8 =>
    if (neS x1.Local r8) then
     some (-1)
    else
     laws_markText (addI (addI (addI k1 1) 1) 1) >>= fun r9 =>
     if (neS x1.Uri r9) then
      some (-1)
     else
      laws_heldDeclS x1.Decls (addI (addI (addI (addI k1 1) 1) 1) 1) >>= fun r10 =>
      if (ltI r10 0) then
       some (-1)
      else
       laws_heldAttrS x1.Attrs r10 >>= fun r11 =>
       if (ltI r11 0) then
        some (-1)
       else
        laws_heldNodeS x1.Kids r11 >>= fun r12 =>
        if (ltI r12 0) then
         some (-1)
        else
         laws_markText r12 >>= fun r13 =>
         if (neS x1.Text r13) then
          some (-1)
         else
          laws_heldNodeS_l6 a (addI r12 1) (addI i 1)
 else
  some k1
 partial_fixpoint
end
def laws_heldNode (a : GNode) (k : Int) : Option (Int) :=
 laws_heldDeclS a.Decls k >>= fun r =>
 if (ltI r 0) then
  some (-1)
 else
  laws_heldAttrS a.Attrs r >>= fun r1 =>
  if (ltI r1 0) then
   some (-1)
  else
   laws_heldNodeS a.Kids r1 >>= fun r2 =>
   if (ltI r2 0) then
    some (-1)
   else
    some r2
def laws_FnExactPutAt (aN : GNode) (aPath : List Int) (aL : List GNode) : Option (Bool) :=
 if (gtI (lenL aPath) 1048576) then
  some true
 else
  laws_szNode aN 1048576 >>= fun r =>
  if (ltI r 0) then
   some true
  else
   laws_szNodeS aL r >>= fun r1 =>
   if (ltI r1 0) then
    some true
   else
    laws_toNode aN >>= fun r2 =>
    laws_toIntS aPath >>= fun r3 =>
    laws_toNodeS aL >>= fun r4 =>
    spec_PutAt r2 r3 r4 >>= fun r5 =>
    laws_toNode aN >>= fun r6 =>
    laws_toIntS aPath >>= fun r7 =>
    laws_toNodeS aL >>= fun r8 =>
    impl_PutAt r6 r7 r8 >>= fun r9 =>
    laws_eqNode r9.1 r5.1 >>= fun r10 =>
    if r10 then
     if (neB r9.2 r5.2) then
      some false
     else
      laws_toNode aN >>= fun r11 =>
      laws_eqNode r6 r11 >>= fun r12 =>
      if r12 then
       laws_toIntS aPath >>= fun r13 =>
       laws_eqIntS r7 r13 >>= fun r14 =>
       if r14 then
        laws_toNodeS aL >>= fun r15 =>
        laws_eqNodeS r8 r15 >>= fun r16 =>
        if r16 then
         laws_markNode r6 1 >>= fun r17 =>
         sameL r17.2.1 r6.Decls >>= fun _ =>
         sameL r17.2.2.1 r6.Attrs >>= fun _ =>
         sameL r17.2.2.2 r6.Kids >>= fun _ =>
         laws_markIntS r7 r17.1 >>= fun r18 =>
         sameL r18.2 r7 >>= fun _ =>
         laws_markNodeS r8 r18.1 >>= fun r19 =>
         sameL r19.2 r8 >>= fun _ =>
         if (ltI r19.1 0) then
          some false
         else
          laws_eqNode r9.1 r5.1 >>= fun r20 =>
          if r20 then
           if (neB r9.2 r5.2) then
            some false
           else
            laws_markNode r9.1 1 >>= fun r21 =>
            sameL r21.2.1 r9.1.Decls >>= fun _ =>
            sameL r21.2.2.1 r9.1.Attrs >>= fun _ =>
            sameL r21.2.2.2 r9.1.Kids >>= fun _ =>
            laws_heldNode (GNode.mk r9.1.Kind r9.1.Pre r9.1.Local r9.1.Uri r21.2.1 r21.2.2.1 r21.2.2.2 r9.1.Text) 1 >>= fun r22 =>
            if (ltI r22 0) then
             some false
            else
             if (neI r22 r21.1) then
              some false
             else
              laws_toNode aN >>= fun r23 =>
              laws_toIntS aPath >>= fun r24 =>
              laws_toNodeS aL >>= fun r25 =>
              impl_PutAt r23 r24 r25 >>= fun r26 =>
              laws_eqNode r26.1 r5.1 >>= fun r27 =>
              if r27 then
               if (neB r26.2 r5.2) then
                some false
               else
                laws_heldNode (GNode.mk r9.1.Kind r9.1.Pre r9.1.Local r9.1.Uri r21.2.1 r21.2.2.1 r21.2.2.2 r9.1.Text) 1 >>= fun r28 =>
                if (ltI r28 0) then
                 some false
                else
                 if (neI r28 r21.1) then
                  some false
                 else
                  some true
              else
               some false
          else
           some false
        else
         some false
       else
        some false
      else
       some false
    else
     some false
end TT
