import Derived.Test.YtdpdfjkjlkmjaaaTTypes
set_option maxHeartbeats 2000000
set_option linter.unusedVariables false
set_option linter.unusedSimpArgs false
set_option linter.defProp false
set_option maxRecDepth 100000
set_option synthInstance.maxHeartbeats 4000000
set_option synthInstance.maxSize 100000
namespace TT
open Go
def laws_big (code : List Int) : Option (Bool) :=
 some (gtI (lenL code) 1048576)
def spec_l1New_l8 (code : List Int) (h : Int) (i : Int) : Option (Gl1Cur) :=
 if (ltI i (lenL code)) then
  if (ltI i 4000) then
   getI code i >>= fun x1 =>
   spec_l1New_l8 code (andK .i64 (addI (addI (mulI h 137) (wr .i64 x1)) 11) 1073741823) (addI i 1)
  else
   some (Gl1Cur.mk code 0 h)
 else
  some (Gl1Cur.mk code 0 h)
 partial_fixpoint
def spec_l1New (code : List Int) : Option (Gl1Cur) :=
 spec_l1New_l8 code (addI 129371 (lenL code)) 0
def spec_l1Byte (c : Gl1Cur) : Option (Int × Gl1Cur) :=
 shrK .i64 (addI (mulI c.xh 6364136223846793005) 1442695040888963407) 33 >>= fun x =>
 shrK .i64 (addI (mulI c.xh 6364136223846793005) 1442695040888963407) 47 >>= fun x1 =>
 if (ltI c.xi (lenL c.xb)) then
  getI c.xb c.xi >>= fun x2 =>
  some ((andK .i64 (addI (andK .i64 (xorK .i64 x x1) 255) (wr .i64 x2)) 255), (Gl1Cur.mk c.xb (addI c.xi 1) (addI (mulI c.xh 6364136223846793005) 1442695040888963407)))
 else
  some ((andK .i64 (xorK .i64 x x1) 255), (Gl1Cur.mk c.xb c.xi (addI (mulI c.xh 6364136223846793005) 1442695040888963407)))
def spec_l1Below (c : Gl1Cur) (n : Int) : Option (Int × Gl1Cur) :=
 if (leI n 0) then
  some (0, c)
 else
  if (leI n 256) then
   spec_l1Byte c >>= fun r =>
   remI r.1 n >>= fun x =>
   some (x, r.2)
  else
   spec_l1Byte c >>= fun r1 =>
   spec_l1Byte r1.2 >>= fun r2 =>
   spec_l1Byte r2.2 >>= fun r3 =>
   remI (addI (addI (mulI r1.1 65536) (mulI r2.1 256)) r3.1) n >>= fun x1 =>
   some (x1, r3.2)
def spec_l1Str (c : Gl1Cur) (list : List ByteArray) : Option (ByteArray × Gl1Cur) :=
 spec_l1Below c (lenL list) >>= fun r =>
 getI list r.1 >>= fun x =>
 some (x, r.2)
def spec_l17List_l8 (l : List (GNode)) (i : Int) (c1 : Gl1Cur) : Option (List GNode × Gl1Cur) :=
 if (gtI i 0) then
  spec_l1Str c1 [⟨#[97]⟩, ⟨#[98]⟩, ⟨#[99]⟩] >>= fun r2 =>
  room (l.length + 1) 144 >>= fun x_1 =>
  spec_l17List_l8 (l ++ [(GNode.mk 1 (⟨#[]⟩) r2.1 (⟨#[]⟩) [] [] [] (⟨#[]⟩))]) (subI i 1) r2.2
 else
  some (l, c1)
 partial_fixpoint
def spec_l17List (c : Gl1Cur) : Option (List GNode × Gl1Cur) :=
 spec_l1Below c 7 >>= fun r =>
 spec_l17List_l8 [] r.1 r.2
def spec_l1Once (c : Gl1Cur) (n : Int) : Option (Bool × Gl1Cur) :=
 spec_l1Below c n >>= fun r =>
 some ((eqI r.1 0), r.2)
def spec_l4Uri (c : Gl1Cur) : Option (ByteArray × Gl1Cur) :=
 spec_l1Str c [⟨#[117, 114, 110, 58, 117]⟩, ⟨#[117, 114, 110, 58, 118]⟩, ⟨#[117, 114, 110, 58, 119]⟩] >>= fun r =>
 some (r.1, r.2)
def spec_l4Decl (c : Gl1Cur) : Option (GDecl × Gl1Cur) :=
 spec_l1Str c [⟨#[]⟩, ⟨#[112]⟩, ⟨#[113]⟩, ⟨#[114]⟩] >>= fun r =>
 spec_l4Uri r.2 >>= fun r1 =>
 if (eqS r.1 (⟨#[]⟩)) then
  spec_l1Once r1.2 3 >>= fun r2 =>
  if r2.1 then
   some ((GDecl.mk r.1 (⟨#[]⟩)), r2.2)
  else
   some ((GDecl.mk r.1 r1.1), r2.2)
 else
  some ((GDecl.mk r.1 r1.1), r1.2)
def spec_l4Draw_l8 (l : List (GDecl)) (i : Int) (c1 : Gl1Cur) : Option (List GDecl × Gl1Cur) :=
 if (gtI i 0) then
  spec_l4Decl c1 >>= fun r2 =>
  if (eqI (lenL l) 0) then
   room (l.length + 1) 32 >>= fun x_2 =>
   spec_l4Draw_l8 (l ++ [r2.1]) (subI i 1) r2.2
  else
   getI l (subI (lenL l) 1) >>= fun x1 =>
   if (ltS x1.Pre r2.1.Pre) then
    room (l.length + 1) 32 >>= fun x_3 =>
    spec_l4Draw_l8 (l ++ [r2.1]) (subI i 1) r2.2
   else
    spec_l4Draw_l8 l (subI i 1) r2.2
 else
  some (l, c1)
 partial_fixpoint
def spec_l4Draw (c : Gl1Cur) : Option (List GDecl × Gl1Cur) :=
 spec_l1Below c 4 >>= fun r =>
 spec_l4Draw_l8 [] r.1 r.2
def spec_Inner (l : List GDecl) (more : List GDecl) : Option (List GDecl) :=
 room (0 + l.length) 32 >>= fun x_ =>
 room ((0 + l.length) + more.length) 32 >>= fun x_1 =>
 some (([] ++ l) ++ more)
def spec_SpaceOf_l6 (l : List GDecl) (pre : ByteArray) (i : Int) : Option (ByteArray × Bool) :=
 if (geI i 0) then
  getI l i >>= fun x1 =>
  if (eqS x1.Pre pre) then
   some (x1.Uri, true)
  else
   spec_SpaceOf_l6 l pre (subI i 1)
 else
  some (⟨#[]⟩, (eqS pre (⟨#[]⟩)))
 partial_fixpoint
def spec_SpaceOf (l : List GDecl) (pre : ByteArray) : Option (ByteArray × Bool) :=
 spec_SpaceOf_l6 l pre (subI (lenL l) 1)
def spec_l5Val (c : Gl1Cur) : Option (ByteArray × Gl1Cur) :=
 spec_l1Str c [⟨#[]⟩, ⟨#[49]⟩, ⟨#[50]⟩, ⟨#[120, 32, 121]⟩, ⟨#[195, 169]⟩, ⟨#[60, 38, 62, 34]⟩, ⟨#[97, 10, 98]⟩, ⟨#[9]⟩] >>= fun r =>
 some (r.1, r.2)
def spec_l5Less (a : GAttr) (b : GAttr) : Option (Bool) :=
 if (ltS a.Uri b.Uri) then
  some true
 else
  if (eqS a.Uri b.Uri) then
   some (ltS a.Local b.Local)
  else
   some false
mutual
def spec_l5All (l : List GNode) : Option (List GNode) :=
 spec_l5All_l8 l [] 0
 partial_fixpoint
def spec_l5All_l8 (l : List GNode) (out : List (GNode)) (i : Int) : Option (List GNode) :=
 if (ltI i (lenL l)) then
  getI l i >>= fun x1 =>
  spec_l5Copy x1 >>= fun r1 =>
  room (out.length + 1) 144 >>= fun x_1 =>
  spec_l5All_l8 l (out ++ [r1]) (addI i 1)
 else
  some out
 partial_fixpoint
def spec_l5Copy (n : GNode) : Option (GNode) :=
 room (0 + n.Decls.length) 32 >>= fun x_ =>
 room (0 + n.Attrs.length) 64 >>= fun x_1 =>
 spec_l5All n.Kids >>= fun r =>
 some (GNode.mk n.Kind n.Pre n.Local n.Uri ([] ++ n.Decls) ([] ++ n.Attrs) r n.Text)
 partial_fixpoint
end
mutual
def spec_Merge_j29 (l : List GNode) (out : List (GNode)) (i : Int) (x8 : Bool) (x6 : GNode) : Option (List GNode) :=
 if x8 then
  getI out (subI (lenL out) 1) >>= fun x9 =>
  catS x9.Text x6.Text >>= fun x10 =>
  getI out (subI (lenL out) 1) >>= fun x11 =>
  spec_Merge_l8 l (out.set (Int.toNat (subI (lenL out) 1)) (GNode.mk x11.Kind x11.Pre x11.Local x11.Uri x11.Decls x11.Attrs x11.Kids x10)) (addI i 1)
 else
  spec_l5Copy x6 >>= fun r2 =>
  room (out.length + 1) 144 >>= fun x_2 =>
  spec_Merge_l8 l (out ++ [r2]) (addI i 1)
 partial_fixpoint
def spec_Merge_l8 (l : List GNode) (out : List (GNode)) (i : Int) : Option (List GNode) :=
 if (ltI i (lenL l)) then
  getI l i >>= fun x6 =>
  if (eqI x6.Kind 2) then
   if (eqS x6.Text (⟨#[]⟩)) then
    spec_Merge_l8 l out (addI i 1)
   else
    if (gtI (lenL out) 0) then
     getI out (subI (lenL out) 1) >>= fun x7 =>
     spec_Merge_j29 l out i (eqI x7.Kind 2) x6
    else
     spec_Merge_j29 l out i false x6
  else
   spec_l5Copy x6 >>= fun r3 =>
   room (out.length + 1) 144 >>= fun x_3 =>
   spec_Merge_l8 l (out ++ [r3]) (addI i 1)
 else
  some out
 partial_fixpoint
end
def spec_Merge (l : List GNode) : Option (List GNode) :=
 spec_Merge_l8 l [] 0
mutual
def spec_l5El (c : Gl1Cur) (in1 : List GDecl) (most : Int) : Option (GNode × Gl1Cur × Int) :=
 spec_l1Str c [⟨#[97]⟩, ⟨#[98]⟩, ⟨#[99]⟩, ⟨#[105, 116, 101, 109]⟩] >>= fun r =>
 spec_l1Once r.2 4 >>= fun r1 =>
 if r1.1 then
  spec_l4Draw r1.2 >>= fun r2 =>
  spec_l5El_j4 in1 r2.2 most r r2.1
 else
  spec_l5El_j4 in1 r1.2 most r []
 partial_fixpoint
def spec_l5El_j4 (in1 : List GDecl) (c1 : Gl1Cur) (most : Int) (r : ByteArray × Gl1Cur) (nDecls : List (GDecl)) : Option (GNode × Gl1Cur × Int) :=
 spec_Inner in1 nDecls >>= fun r3 =>
 spec_l1Once c1 4 >>= fun r4 =>
 if r4.1 then
  spec_l1Str r4.2 [⟨#[112]⟩, ⟨#[113]⟩] >>= fun r5 =>
  spec_l5El_j12 r3 r5.2 most r5.1 r nDecls
 else
  spec_l5El_j12 r3 r4.2 most (⟨#[]⟩) r nDecls
 partial_fixpoint
def spec_l5El_j12 (r3 : List GDecl) (c2 : Gl1Cur) (most : Int) (nPre : ByteArray) (r : ByteArray × Gl1Cur) (nDecls : List (GDecl)) : Option (GNode × Gl1Cur × Int) :=
 spec_SpaceOf r3 nPre >>= fun r6 =>
 if r6.2 then
  spec_l5El_j20 r3 r6.1 c2 most nPre r nDecls
 else
  spec_SpaceOf r3 (⟨#[]⟩) >>= fun r7 =>
  spec_l5El_j20 r3 r7.1 c2 most (⟨#[]⟩) r nDecls
 partial_fixpoint
def spec_l5El_j20 (r3 : List GDecl) (u : ByteArray) (c2 : Gl1Cur) (most : Int) (nPre1 : ByteArray) (r : ByteArray × Gl1Cur) (nDecls : List (GDecl)) : Option (GNode × Gl1Cur × Int) :=
 spec_l1Below c2 3 >>= fun r8 =>
 spec_l5El_l34 r3 r8.1 r8.2 most nPre1 r u nDecls []
 partial_fixpoint
def spec_l5El_j49 (r3 : List GDecl) (i1 : Int) (r31 : ByteArray × Gl1Cur) (most : Int) (nPre1 : ByteArray) (r : ByteArray × Gl1Cur) (u : ByteArray) (nDecls : List (GDecl)) (nAttrs : List (GAttr)) (a1 : GAttr) : Option (GNode × Gl1Cur × Int) :=
 if (eqI (lenL nAttrs) 0) then
  room (nAttrs.length + 1) 64 >>= fun x_10 =>
  spec_l5El_l34 r3 (subI i1 1) r31.2 most nPre1 r u nDecls (nAttrs ++ [a1])
 else
  getI nAttrs (subI (lenL nAttrs) 1) >>= fun x3 =>
  spec_l5Less x3 a1 >>= fun r33 =>
  if r33 then
   room (nAttrs.length + 1) 64 >>= fun x_11 =>
   spec_l5El_l34 r3 (subI i1 1) r31.2 most nPre1 r u nDecls (nAttrs ++ [a1])
  else
   spec_l5El_l34 r3 (subI i1 1) r31.2 most nPre1 r u nDecls nAttrs
 partial_fixpoint
def spec_l5El_j81 (r3 : List GDecl) (i2 : Int) (r42 : Int × Gl1Cur) (x5 : Bool) (most2 : Int) (nPre1 : ByteArray) (r : ByteArray × Gl1Cur) (u : ByteArray) (nDecls : List (GDecl)) (nAttrs : List (GAttr)) (nKids1 : List (GNode)) : Option (GNode × Gl1Cur × Int) :=
 if x5 then
  spec_l1Str r42.2 [⟨#[120]⟩, ⟨#[121]⟩, ⟨#[32]⟩, ⟨#[10, 32, 32]⟩, ⟨#[49]⟩, ⟨#[226, 130, 172, 60]⟩] >>= fun r43 =>
  room (nKids1.length + 1) 144 >>= fun x_16 =>
  spec_l5El_l67 r3 (subI i2 1) r43.2 (subI most2 1) nPre1 r u nDecls nAttrs (nKids1 ++ [(GNode.mk 2 (⟨#[]⟩) (⟨#[]⟩) (⟨#[]⟩) [] [] [] r43.1)])
 else
  if (eqI r42.1 2) then
   spec_l1Str r42.2 [⟨#[]⟩, ⟨#[110]⟩, ⟨#[32, 109, 32]⟩] >>= fun r44 =>
   room (nKids1.length + 1) 144 >>= fun x_17 =>
   spec_l5El_l67 r3 (subI i2 1) r44.2 (subI most2 1) nPre1 r u nDecls nAttrs (nKids1 ++ [(GNode.mk 3 (⟨#[]⟩) (⟨#[]⟩) (⟨#[]⟩) [] [] [] r44.1)])
  else
   if (eqI r42.1 3) then
    spec_l1Str r42.2 [⟨#[]⟩, ⟨#[103, 111]⟩] >>= fun r45 =>
    room (nKids1.length + 1) 144 >>= fun x_18 =>
    spec_l5El_l67 r3 (subI i2 1) r45.2 (subI most2 1) nPre1 r u nDecls nAttrs (nKids1 ++ [(GNode.mk 4 (⟨#[]⟩) (⟨#[116]⟩) (⟨#[]⟩) [] [] [] r45.1)])
   else
    spec_l5El r42.2 r3 (subI most2 1) >>= fun r46 =>
    room (nKids1.length + 1) 144 >>= fun x_19 =>
    spec_l5El_l67 r3 (subI i2 1) r46.2.1 r46.2.2 nPre1 r u nDecls nAttrs (nKids1 ++ [r46.1])
 partial_fixpoint
def spec_l5El_l67 (r3 : List GDecl) (i2 : Int) (c5 : Gl1Cur) (most2 : Int) (nPre1 : ByteArray) (r : ByteArray × Gl1Cur) (u : ByteArray) (nDecls : List (GDecl)) (nAttrs : List (GAttr)) (nKids1 : List (GNode)) : Option (GNode × Gl1Cur × Int) :=
 if (gtI i2 0) then
  if (gtI most2 0) then
   spec_l1Below c5 6 >>= fun r42 =>
   if (eqI r42.1 0) then
    spec_l5El_j81 r3 i2 r42 true most2 nPre1 r u nDecls nAttrs nKids1
   else
    spec_l5El_j81 r3 i2 r42 (eqI r42.1 1) most2 nPre1 r u nDecls nAttrs nKids1
  else
   spec_Merge nKids1 >>= fun r47 =>
   some ((GNode.mk 1 nPre1 r.1 u nDecls nAttrs r47 (⟨#[]⟩)), c5, most2)
 else
  spec_Merge nKids1 >>= fun r48 =>
  some ((GNode.mk 1 nPre1 r.1 u nDecls nAttrs r48 (⟨#[]⟩)), c5, most2)
 partial_fixpoint
def spec_l5El_l34 (r3 : List GDecl) (i1 : Int) (c4 : Gl1Cur) (most : Int) (nPre1 : ByteArray) (r : ByteArray × Gl1Cur) (u : ByteArray) (nDecls : List (GDecl)) (nAttrs : List (GAttr)) : Option (GNode × Gl1Cur × Int) :=
 if (gtI i1 0) then
  spec_l1Str c4 [⟨#[105, 100]⟩, ⟨#[107]⟩, ⟨#[118]⟩] >>= fun r29 =>
  spec_l5Val r29.2 >>= fun r30 =>
  spec_l1Str r30.2 [⟨#[]⟩, ⟨#[]⟩, ⟨#[112]⟩] >>= fun r31 =>
  spec_SpaceOf r3 r31.1 >>= fun r32 =>
  if (neS r31.1 (⟨#[]⟩)) then
   if r32.2 then
    spec_l5El_j49 r3 i1 r31 most nPre1 r u nDecls nAttrs (GAttr.mk r31.1 r29.1 r32.1 r30.1)
   else
    spec_l5El_j49 r3 i1 r31 most nPre1 r u nDecls nAttrs (GAttr.mk (⟨#[]⟩) r29.1 (⟨#[]⟩) r30.1)
  else
   spec_l5El_j49 r3 i1 r31 most nPre1 r u nDecls nAttrs (GAttr.mk (⟨#[]⟩) r29.1 (⟨#[]⟩) r30.1)
 else
  spec_l1Below c4 4 >>= fun r34 =>
  spec_l5El_l67 r3 r34.1 r34.2 most nPre1 r u nDecls nAttrs []
 partial_fixpoint
end
def pc_spec_l5El := @spec_l5El.mutual_partial_correctness
mutual
def spec_CountOf (n : GNode) : Option (Int) :=
 spec_CountOf_l8 (addI 1 (lenL n.Attrs)) 0 n
 partial_fixpoint
def spec_CountOf_l8 (k : Int) (i : Int) (n : GNode) : Option (Int) :=
 if (ltI i (lenL n.Kids)) then
  getI n.Kids i >>= fun x1 =>
  spec_CountOf x1 >>= fun r1 =>
  spec_CountOf_l8 (addI k r1) (addI i 1) n
 else
  some k
 partial_fixpoint
end
def spec_l1In (a0 : Int) (least : Int) (most : Int) : Option (Bool) :=
 if (geI a0 least) then
  some (leI a0 most)
 else
  some false
def spec_SignAt_l55 (s : ByteArray) (at1 : Int) (n : Int) (least : Int) (v1 : Int) (i : Int) : Option (Int × Int × Bool) :=
 if (leI i n) then
  atS s (addI at1 i) >>= fun x4 =>
  if (ltI (wr .i64 x4) 128) then
   some (0, 0, false)
  else
   if (gtI (wr .i64 x4) 191) then
    some (0, 0, false)
   else
    spec_SignAt_l55 s at1 n least (subI (addI (mulI v1 64) (wr .i64 x4)) 128) (addI i 1)
 else
  if (ltI v1 least) then
   some (0, 0, false)
  else
   if (gtI v1 1114111) then
    some (0, 0, false)
   else
    spec_l1In v1 55296 57343 >>= fun r1 =>
    if r1 then
     some (0, 0, false)
    else
     some (v1, (addI (addI at1 1) n), true)
 partial_fixpoint
def pc_spec_SignAt_l55 := @spec_SignAt_l55.partial_correctness
def spec_SignAt_j26 (s : ByteArray) (at1 : Int) (n : Int) (least : Int) (v : Int) : Option (Int × Int × Bool) :=
 if (gtI at1 (subI (subI (lenS s) 1) n)) then
  some (0, 0, false)
 else
  spec_SignAt_l55 s at1 n least v 1
def spec_SignAt_j32 (s : ByteArray) (at1 : Int) (x : Int) (x2 : Bool) : Option (Int × Int × Bool) :=
 if x2 then
  spec_SignAt_j26 s at1 2 2048 (andK .i64 (wr .i64 x) 15)
 else
  if (geI (wr .i64 x) 240) then
   if (ltI (wr .i64 x) 248) then
    spec_SignAt_j26 s at1 3 65536 (andK .i64 (wr .i64 x) 7)
   else
    some (0, 0, false)
  else
   some (0, 0, false)
def spec_SignAt_j28 (s : ByteArray) (at1 : Int) (x : Int) (x1 : Bool) : Option (Int × Int × Bool) :=
 if x1 then
  spec_SignAt_j26 s at1 1 128 (andK .i64 (wr .i64 x) 31)
 else
  if (geI (wr .i64 x) 224) then
   spec_SignAt_j32 s at1 x (ltI (wr .i64 x) 240)
  else
   spec_SignAt_j32 s at1 x false
def spec_SignAt (s : ByteArray) (at1 : Int) : Option (Int × Int × Bool) :=
 if (ltI at1 0) then
  some (0, 0, false)
 else
  if (geI at1 (lenS s)) then
   some (0, 0, false)
  else
   atS s at1 >>= fun x =>
   if (ltI (wr .i64 x) 128) then
    some ((wr .i64 x), (addI at1 1), true)
   else
    if (geI (wr .i64 x) 192) then
     spec_SignAt_j28 s at1 x (ltI (wr .i64 x) 224)
    else
     spec_SignAt_j28 s at1 x false
def spec_l1Ranges_l6 (n : Int) (l : List Int) (i : Int) : Option (Bool) :=
 if (ltI (addI i 1) (lenL l)) then
  getI l i >>= fun x2 =>
  getI l (addI i 1) >>= fun x3 =>
  spec_l1In n x2 x3 >>= fun r1 =>
  if r1 then
   some true
  else
   spec_l1Ranges_l6 n l (addI i 2)
 else
  some false
 partial_fixpoint
def spec_l1Ranges (n : Int) (l : List Int) : Option (Bool) :=
 spec_l1Ranges_l6 n l 0
def spec_IsStart (n : Int) : Option (Bool) :=
 spec_l1Ranges n [65, 90, 95, 95, 97, 122, 192, 214, 216, 246, 248, 767, 880, 893, 895, 8191, 8204, 8205, 8304, 8591, 11264, 12271, 12289, 55295, 63744, 64975, 65008, 65533, 65536, 983039] >>= fun r =>
 some r
def spec_IsPart (n : Int) : Option (Bool) :=
 spec_IsStart n >>= fun r =>
 if r then
  some true
 else
  spec_l1Ranges n [45, 46, 48, 57, 183, 183, 768, 879, 8255, 8256] >>= fun r1 =>
  some r1
def spec_PlainOk_l14 (s : ByteArray) (at1 : Int) : Option (Bool) :=
 if (ltI at1 (lenS s)) then
  spec_SignAt s at1 >>= fun r5 =>
  if r5.2.2 then
   if (eqI at1 0) then
    spec_IsStart r5.1 >>= fun r6 =>
    if r6 then
     spec_IsPart r5.1 >>= fun r7 =>
     if r7 then
      spec_PlainOk_l14 s r5.2.1
     else
      some false
    else
     some false
   else
    spec_IsPart r5.1 >>= fun r8 =>
    if r8 then
     spec_PlainOk_l14 s r5.2.1
    else
     some false
  else
   some false
 else
  some true
 partial_fixpoint
def spec_PlainOk (s : ByteArray) : Option (Bool) :=
 spec_l1In (lenS s) 1 16 >>= fun r =>
 if r then
  spec_PlainOk_l14 s 0
 else
  some false
def spec_l4Xml (s : ByteArray) : Option (Bool) :=
 if (geI (lenS s) 3) then
  subS s 0 3 >>= fun x =>
  some (eqS x (⟨#[120, 109, 108]⟩))
 else
  some false
def spec_l5Pre (s : ByteArray) : Option (Bool) :=
 if (eqS s (⟨#[]⟩)) then
  some true
 else
  spec_PlainOk s >>= fun r =>
  if r then
   spec_l4Xml s >>= fun r1 =>
   some (!r1)
  else
   some false
def spec_IsSign (n : Int) : Option (Bool) :=
 if (eqI n 9) then
  some true
 else
  if (eqI n 10) then
   some true
  else
   if (eqI n 13) then
    some true
   else
    spec_l1In n 32 55295 >>= fun r =>
    if r then
     some true
    else
     spec_l1In n 57344 65533 >>= fun r1 =>
     if r1 then
      some true
     else
      spec_l1In n 65536 1114111 >>= fun r2 =>
      some r2
def spec_l1Signs_l6 (s : ByteArray) (at1 : Int) : Option (Bool) :=
 if (ltI at1 (lenS s)) then
  spec_SignAt s at1 >>= fun r2 =>
  if r2.2.2 then
   spec_IsSign r2.1 >>= fun r3 =>
   if r3 then
    spec_l1Signs_l6 s r2.2.1
   else
    some false
  else
   some false
 else
  some (leI (lenS s) 1500)
 partial_fixpoint
def spec_l1Signs (s : ByteArray) : Option (Bool) :=
 spec_l1Signs_l6 s 0
def spec_TextOk (s : ByteArray) : Option (Bool) :=
 if (leI (lenS s) 600) then
  spec_l1Signs s >>= fun r =>
  some r
 else
  some false
def spec_DeclOk_j2 (d : GDecl) : Option (Bool) :=
 spec_TextOk d.Uri >>= fun r2 =>
 if r2 then
  some (leI (lenS d.Uri) 40)
 else
  some false
def spec_DeclOk (d : GDecl) : Option (Bool) :=
 if (neS d.Pre (⟨#[]⟩)) then
  spec_PlainOk d.Pre >>= fun r =>
  if r then
   spec_l4Xml d.Pre >>= fun r1 =>
   if r1 then
    some false
   else
    if (eqS d.Uri (⟨#[]⟩)) then
     some false
    else
     spec_DeclOk_j2 d
  else
   some false
 else
  spec_DeclOk_j2 d
def spec_DeclsOk_l6 (l : List GDecl) (i : Int) : Option (Bool) :=
 if (ltI i (lenL l)) then
  getI l i >>= fun x2 =>
  spec_DeclOk x2 >>= fun r1 =>
  if r1 then
   if (gtI i 0) then
    getI l (subI i 1) >>= fun x3 =>
    if (geS x3.Pre x2.Pre) then
     some false
    else
     spec_DeclsOk_l6 l (addI i 1)
   else
    spec_DeclsOk_l6 l (addI i 1)
  else
   some false
 else
  some (leI (lenL l) 4)
 partial_fixpoint
def spec_DeclsOk (l : List GDecl) : Option (Bool) :=
 spec_DeclsOk_l6 l 0
def spec_l5Bare (n : GNode) : Option (Bool) :=
 if (eqS n.Pre (⟨#[]⟩)) then
  if (eqS n.Uri (⟨#[]⟩)) then
   if (eqI (lenL n.Decls) 0) then
    if (eqI (lenL n.Attrs) 0) then
     some (eqI (lenL n.Kids) 0)
    else
     some false
   else
    some false
  else
   some false
 else
  some false
def spec_l5Has_l6 (s : ByteArray) (t : ByteArray) (i : Int) : Option (Bool) :=
 if (leI (addI i (lenS t)) (lenS s)) then
  subS s i (addI i (lenS t)) >>= fun x1 =>
  if (eqS x1 t) then
   some true
  else
   spec_l5Has_l6 s t (addI i 1)
 else
  some false
 partial_fixpoint
def spec_l5Has (s : ByteArray) (t : ByteArray) : Option (Bool) :=
 spec_l5Has_l6 s t 0
def spec_l5Xml (s : ByteArray) : Option (Bool) :=
 if (neI (lenS s) 3) then
  some false
 else
  atS s 0 >>= fun x =>
  if (eqI x 120) then
   atS s 1 >>= fun x1 =>
   if (eqI x1 109) then
    atS s 2 >>= fun x2 =>
    if (eqI x2 108) then
     some true
    else
     atS s 2 >>= fun x3 =>
     some (eqI x3 76)
   else
    atS s 1 >>= fun x4 =>
    if (eqI x4 77) then
     atS s 2 >>= fun x5 =>
     if (eqI x5 108) then
      some true
     else
      atS s 2 >>= fun x6 =>
      some (eqI x6 76)
    else
     some false
  else
   atS s 0 >>= fun x7 =>
   if (eqI x7 88) then
    atS s 1 >>= fun x8 =>
    if (eqI x8 109) then
     atS s 2 >>= fun x9 =>
     if (eqI x9 108) then
      some true
     else
      atS s 2 >>= fun x10 =>
      some (eqI x10 76)
    else
     atS s 1 >>= fun x11 =>
     if (eqI x11 77) then
      atS s 2 >>= fun x12 =>
      if (eqI x12 108) then
       some true
      else
       atS s 2 >>= fun x13 =>
       some (eqI x13 76)
     else
      some false
   else
    some false
def spec_IsBlank (n : Int) : Option (Bool) :=
 if (eqI n 9) then
  some true
 else
  if (eqI n 10) then
   some true
  else
   if (eqI n 13) then
    some true
   else
    some (eqI n 32)
def spec_l5AttrOk_j2 (a : GAttr) : Option (Bool) :=
 spec_TextOk a.Val >>= fun r2 =>
 if r2 then
  spec_TextOk a.Uri >>= fun r3 =>
  if r3 then
   some (leI (lenS a.Uri) 40)
  else
   some false
 else
  some false
def spec_l5AttrOk (a : GAttr) : Option (Bool) :=
 spec_l5Pre a.Pre >>= fun r =>
 if r then
  if (neB (eqS a.Pre (⟨#[]⟩)) (eqS a.Uri (⟨#[]⟩))) then
   some false
  else
   spec_PlainOk a.Local >>= fun r1 =>
   if r1 then
    if (eqS a.Pre (⟨#[]⟩)) then
     if (eqS a.Local (⟨#[120, 109, 108, 110, 115]⟩)) then
      some false
     else
      spec_l5AttrOk_j2 a
    else
     spec_l5AttrOk_j2 a
   else
    some false
 else
  some false
def spec_l5One_l21 (i : Int) (n : GNode) : Option (Bool) :=
 if (ltI i (lenL n.Attrs)) then
  getI n.Attrs i >>= fun x2 =>
  spec_l5AttrOk x2 >>= fun r8 =>
  if r8 then
   if (gtI i 0) then
    getI n.Attrs (subI i 1) >>= fun x3 =>
    spec_l5Less x3 x2 >>= fun r9 =>
    if r9 then
     spec_l5One_l21 (addI i 1) n
    else
     some false
   else
    spec_l5One_l21 (addI i 1) n
  else
   some false
 else
  some true
 partial_fixpoint
def spec_l5One_j9 (n : GNode) : Option (Bool) :=
 spec_l5One_l21 0 n
def spec_l5One (n : GNode) : Option (Bool) :=
 if (eqI n.Kind 1) then
  spec_l5Pre n.Pre >>= fun r =>
  if r then
   spec_PlainOk n.Local >>= fun r1 =>
   if r1 then
    if (neS n.Text (⟨#[]⟩)) then
     some false
    else
     if (neS n.Pre (⟨#[]⟩)) then
      if (eqS n.Uri (⟨#[]⟩)) then
       some false
      else
       spec_TextOk n.Uri >>= fun r2 =>
       if r2 then
        if (gtI (lenS n.Uri) 40) then
         some false
        else
         spec_DeclsOk n.Decls >>= fun r3 =>
         if r3 then
          if (gtI (lenL n.Attrs) 5) then
           some false
          else
           spec_l5One_j9 n
         else
          some false
       else
        some false
     else
      spec_TextOk n.Uri >>= fun r4 =>
      if r4 then
       if (gtI (lenS n.Uri) 40) then
        some false
       else
        spec_DeclsOk n.Decls >>= fun r5 =>
        if r5 then
         if (gtI (lenL n.Attrs) 5) then
          some false
         else
          spec_l5One_j9 n
        else
         some false
      else
       some false
   else
    some false
  else
   some false
 else
  if (eqI n.Kind 2) then
   spec_l5Bare n >>= fun r10 =>
   if r10 then
    if (eqS n.Local (⟨#[]⟩)) then
     if (neS n.Text (⟨#[]⟩)) then
      spec_TextOk n.Text >>= fun r11 =>
      some r11
     else
      some false
    else
     some false
   else
    some false
  else
   if (eqI n.Kind 3) then
    spec_l5Bare n >>= fun r12 =>
    if r12 then
     if (eqS n.Local (⟨#[]⟩)) then
      spec_TextOk n.Text >>= fun r13 =>
      if r13 then
       spec_l5Has n.Text (⟨#[45, 45]⟩) >>= fun r14 =>
       if r14 then
        some false
       else
        spec_l5Has n.Text (⟨#[13]⟩) >>= fun r15 =>
        if r15 then
         some false
        else
         if (eqS n.Text (⟨#[]⟩)) then
          some true
         else
          atS n.Text (subI (lenS n.Text) 1) >>= fun x4 =>
          some (neI x4 45)
      else
       some false
     else
      some false
    else
     some false
   else
    if (eqI n.Kind 4) then
     spec_l5Bare n >>= fun r16 =>
     if r16 then
      spec_PlainOk n.Local >>= fun r17 =>
      if r17 then
       spec_l5Xml n.Local >>= fun r18 =>
       if r18 then
        some false
       else
        spec_TextOk n.Text >>= fun r19 =>
        if r19 then
         spec_l5Has n.Text (⟨#[63, 62]⟩) >>= fun r20 =>
         if r20 then
          some false
         else
          spec_l5Has n.Text (⟨#[13]⟩) >>= fun r21 =>
          if r21 then
           some false
          else
           if (eqS n.Text (⟨#[]⟩)) then
            some true
           else
            atS n.Text 0 >>= fun x5 =>
            spec_IsBlank (wr .i64 x5) >>= fun r22 =>
            some (!r22)
        else
         some false
      else
       some false
     else
      some false
    else
     some false
mutual
def spec_l5Kids (l : List GNode) (deep : Int) : Option (Bool) :=
 spec_l5Kids_l6 l deep 0
 partial_fixpoint
def spec_l5Kids_j17 (l : List GNode) (deep : Int) (i : Int) (x2 : GNode) : Option (Bool) :=
 if (eqI x2.Kind 1) then
  if (eqI deep 7) then
   some false
  else
   spec_l5Kids x2.Kids (addI deep 1) >>= fun r3 =>
   if r3 then
    spec_l5Kids_l6 l deep (addI i 1)
   else
    some false
 else
  spec_l5Kids_l6 l deep (addI i 1)
 partial_fixpoint
def spec_l5Kids_l6 (l : List GNode) (deep : Int) (i : Int) : Option (Bool) :=
 if (ltI i (lenL l)) then
  getI l i >>= fun x2 =>
  spec_l5One x2 >>= fun r2 =>
  if r2 then
   if (eqI x2.Kind 2) then
    if (gtI i 0) then
     getI l (subI i 1) >>= fun x3 =>
     if (eqI x3.Kind 2) then
      some false
     else
      spec_l5Kids_j17 l deep i x2
    else
     spec_l5Kids_j17 l deep i x2
   else
    spec_l5Kids_j17 l deep i x2
  else
   some false
 else
  some true
 partial_fixpoint
end
mutual
def spec_NodeOk_j33 (k2 : Int) (i : Int) (n : GNode) : Option (Bool) :=
 getI n.Kids i >>= fun x3 =>
 if (eqI x3.Kind 2) then
  some false
 else
  spec_NodeOk_l24 k2 (addI i 1) n
 partial_fixpoint
def spec_NodeOk_l24 (k1 : Int) (i : Int) (n : GNode) : Option (Bool) :=
 if (ltI i (lenL n.Kids)) then
  getI n.Kids i >>= fun x2 =>
  if (eqI x2.Kind 1) then
   spec_NodeOk_j33 (addI k1 1) i n
  else
   spec_NodeOk_j33 k1 i n
 else
  if (eqI k1 1) then
   if (eqS n.Pre (⟨#[]⟩)) then
    if (eqS n.Local (⟨#[]⟩)) then
     if (eqS n.Uri (⟨#[]⟩)) then
      if (eqS n.Text (⟨#[]⟩)) then
       if (eqI (lenL n.Decls) 0) then
        if (eqI (lenL n.Attrs) 0) then
         spec_l5Kids n.Kids 0 >>= fun r3 =>
         some r3
        else
         some false
       else
        some false
      else
       some false
     else
      some false
    else
     some false
   else
    some false
  else
   some false
 partial_fixpoint
end
def spec_NodeOk (n : GNode) : Option (Bool) :=
 spec_CountOf n >>= fun r =>
 if (gtI r 60) then
  some false
 else
  if (neI n.Kind 0) then
   spec_l5Kids [n] 0 >>= fun r1 =>
   some r1
  else
   spec_NodeOk_l24 0 0 n
mutual
def spec_FitsIn (n : GNode) (l : List GDecl) : Option (Bool) :=
 spec_Inner l n.Decls >>= fun r =>
 if (eqI n.Kind 1) then
  spec_SpaceOf r n.Pre >>= fun r1 =>
  if r1.2 then
   if (neS r1.1 n.Uri) then
    some false
   else
    spec_FitsIn_j4 r n
  else
   some false
 else
  spec_FitsIn_j4 r n
 partial_fixpoint
def spec_FitsIn_j4 (r : List GDecl) (n : GNode) : Option (Bool) :=
 spec_FitsIn_l22 r 0 n
 partial_fixpoint
def spec_FitsIn_l45 (r : List GDecl) (i2 : Int) (n : GNode) : Option (Bool) :=
 if (ltI i2 (lenL n.Kids)) then
  getI n.Kids i2 >>= fun x5 =>
  spec_FitsIn x5 r >>= fun r7 =>
  if r7 then
   spec_FitsIn_l45 r (addI i2 1) n
  else
   some false
 else
  some true
 partial_fixpoint
def spec_FitsIn_l22 (r : List GDecl) (i1 : Int) (n : GNode) : Option (Bool) :=
 if (ltI i1 (lenL n.Attrs)) then
  getI n.Attrs i1 >>= fun x3 =>
  spec_SpaceOf r x3.Pre >>= fun r5 =>
  if (neS x3.Pre (⟨#[]⟩)) then
   if r5.2 then
    if (neS r5.1 x3.Uri) then
     some false
    else
     spec_FitsIn_l22 r (addI i1 1) n
   else
    some false
  else
   spec_FitsIn_l22 r (addI i1 1) n
 else
  spec_FitsIn_l45 r 0 n
 partial_fixpoint
end
def spec_TreeOk (n : GNode) : Option (Bool) :=
 if (eqI n.Kind 0) then
  spec_NodeOk n >>= fun r =>
  if r then
   spec_FitsIn n [] >>= fun r1 =>
   some r1
  else
   some false
 else
  some false
def spec_l5Draw_j16 (r3 : Bool × Gl1Cur) (nKids1 : List (GNode)) : Option (GNode × Gl1Cur) :=
 spec_TreeOk (GNode.mk 0 (⟨#[]⟩) (⟨#[]⟩) (⟨#[]⟩) [] [] nKids1 (⟨#[]⟩)) >>= fun r4 =>
 if r4 then
  some ((GNode.mk 0 (⟨#[]⟩) (⟨#[]⟩) (⟨#[]⟩) [] [] nKids1 (⟨#[]⟩)), r3.2)
 else
  some ((GNode.mk 0 (⟨#[]⟩) (⟨#[]⟩) (⟨#[]⟩) [] [] [(GNode.mk 1 (⟨#[]⟩) (⟨#[97]⟩) (⟨#[]⟩) [] [] [] (⟨#[]⟩))] (⟨#[]⟩)), r3.2)
def spec_l5Draw_j6 (r1 : Bool × Gl1Cur) (r : Int × Gl1Cur) (nKids : List (GNode)) : Option (GNode × Gl1Cur) :=
 spec_l5El r1.2 [] (addI 3 r.1) >>= fun r2 =>
 room (nKids.length + 1) 144 >>= fun x_1 =>
 spec_l1Once r2.2.1 4 >>= fun r3 =>
 if r3.1 then
  room ((nKids ++ [r2.1]).length + 1) 144 >>= fun x_2 =>
  spec_l5Draw_j16 r3 ((nKids ++ [r2.1]) ++ [(GNode.mk 4 (⟨#[]⟩) (⟨#[116]⟩) (⟨#[]⟩) [] [] [] (⟨#[101, 110, 100]⟩))])
 else
  spec_l5Draw_j16 r3 (nKids ++ [r2.1])
def spec_l5Draw (c : Gl1Cur) : Option (GNode × Gl1Cur) :=
 spec_l1Below c 8 >>= fun r =>
 spec_l1Once r.2 4 >>= fun r1 =>
 if r1.1 then
  room 1 144 >>= fun x_ =>
  spec_l5Draw_j6 r1 r ([] ++ [(GNode.mk 3 (⟨#[]⟩) (⟨#[]⟩) (⟨#[]⟩) [] [] [] (⟨#[104]⟩))])
 else
  spec_l5Draw_j6 r1 r []
def spec_DrawAlign (code : List Int) : Option (List GNode × List GNode) :=
 spec_l1New code >>= fun r =>
 spec_l17List r >>= fun r1 =>
 spec_l1Once r1.2 5 >>= fun r2 =>
 if r2.1 then
  spec_l5Draw r2.2 >>= fun r3 =>
  some (r1.1, r3.1.Kids)
 else
  spec_l17List r2.2 >>= fun r4 =>
  some (r1.1, r4.1)
def slices_Equal_Decl_l14 (s1 : List GDecl) (s2 : List GDecl) (x2 : Int) : Option (Bool) :=
 if (ltI x2 (lenL s1)) then
  getI s1 x2 >>= fun x3 =>
  getI s2 x2 >>= fun x4 =>
  if (eqS x3.Pre x4.Pre && eqS x3.Uri x4.Uri) then
   slices_Equal_Decl_l14 s1 s2 (addI x2 1)
  else
   some false
 else
  some true
 partial_fixpoint
def slices_Equal_Decl (s1 : List GDecl) (s2 : List GDecl) : Option (Bool) :=
 if (neI (lenL s1) (lenL s2)) then
  some false
 else
  slices_Equal_Decl_l14 s1 s2 0
def slices_Equal_Attr_l14 (s1 : List GAttr) (s2 : List GAttr) (x2 : Int) : Option (Bool) :=
 if (ltI x2 (lenL s1)) then
  getI s1 x2 >>= fun x3 =>
  getI s2 x2 >>= fun x4 =>
  if (eqS x3.Pre x4.Pre && (eqS x3.Local x4.Local && (eqS x3.Uri x4.Uri && eqS x3.Val x4.Val))) then
   slices_Equal_Attr_l14 s1 s2 (addI x2 1)
  else
   some false
 else
  some true
 partial_fixpoint
def slices_Equal_Attr (s1 : List GAttr) (s2 : List GAttr) : Option (Bool) :=
 if (neI (lenL s1) (lenL s2)) then
  some false
 else
  slices_Equal_Attr_l14 s1 s2 0
def impl_sameAlone (a : GNode) (b : GNode) : Option (Bool) :=
 if (eqI a.Kind b.Kind) then
  if (eqS a.Pre b.Pre) then
   if (eqS a.Local b.Local) then
    if (eqS a.Uri b.Uri) then
     if (eqS a.Text b.Text) then
      slices_Equal_Decl a.Decls b.Decls >>= fun r =>
      if r then
       slices_Equal_Attr a.Attrs b.Attrs >>= fun r1 =>
       some r1
      else
       some false
     else
      some false
    else
     some false
   else
    some false
  else
   some false
 else
  some false
mutual
def impl_SameNode (a : GNode) (b : GNode) : Option (Bool) :=
 impl_sameAlone a b >>= fun r =>
 if r then
  slices_EqualFunc_Node_SameNode a.Kids b.Kids >>= fun r1 =>
  some r1
 else
  some false
 partial_fixpoint
def slices_EqualFunc_Node_SameNode (s1 : List GNode) (s2 : List GNode) : Option (Bool) :=
 if (neI (lenL s1) (lenL s2)) then
  some false
 else
  slices_EqualFunc_Node_SameNode_l14 s2 s1 0
 partial_fixpoint
def slices_EqualFunc_Node_SameNode_l14 (s2 : List GNode) (s1 : List GNode) (x2 : Int) : Option (Bool) :=
 if (ltI x2 (lenL s1)) then
  getI s1 x2 >>= fun x3 =>
  getI s2 x2 >>= fun x4 =>
  impl_SameNode x3 x4 >>= fun r1 =>
  if r1 then
   slices_EqualFunc_Node_SameNode_l14 s2 s1 (addI x2 1)
  else
   some false
 else
  some true
 partial_fixpoint
end
mutual
def impl_longest_l37 (a : List GNode) (b : List GNode) (out6 : List (List Int)) (i1 : Int) (k3 : Int) : Option (List (List Int)) :=
 if (geI k3 0) then
  getI out6 i1 >>= fun x101 =>
  getI out6 (addI i1 1) >>= fun x102 =>
  getI x102 k3 >>= fun x103 =>
  getI out6 i1 >>= fun x104 =>
  getI x104 (addI k3 1) >>= fun x105 =>
  getI x101 k3 >>= fun x106 =>
  getI a i1 >>= fun x107 =>
  getI b k3 >>= fun x108 =>
  impl_SameNode x107 x108 >>= fun r7 =>
  if r7 then
   getI (out6.set (Int.toNat i1) (x101.set (Int.toNat k3) (maxI x103 x105))) i1 >>= fun x109 =>
   getI (out6.set (Int.toNat i1) (x101.set (Int.toNat k3) (maxI x103 x105))) i1 >>= fun x110 =>
   getI x110 k3 >>= fun x111 =>
   getI (out6.set (Int.toNat i1) (x101.set (Int.toNat k3) (maxI x103 x105))) (addI i1 1) >>= fun x112 =>
   getI x112 (addI k3 1) >>= fun x113 =>
   getI x109 k3 >>= fun x114 =>
   impl_longest_l37 a b ((out6.set (Int.toNat i1) (x101.set (Int.toNat k3) (maxI x103 x105))).set (Int.toNat i1) (x109.set (Int.toNat k3) (maxI x111 (addI 1 x113)))) i1 (subI k3 1)
  else
   impl_longest_l37 a b (out6.set (Int.toNat i1) (x101.set (Int.toNat k3) (maxI x103 x105))) i1 (subI k3 1)
 else
  impl_longest_l25 a b out6 (subI i1 1)
 partial_fixpoint
def impl_longest_l25 (a : List GNode) (b : List GNode) (out5 : List (List Int)) (i1 : Int) : Option (List (List Int)) :=
 if (geI i1 0) then
  impl_longest_l37 a b out5 i1 (subI (lenL b) 1)
 else
  some out5
 partial_fixpoint
end
def impl_longest_l8 (a : List GNode) (b : List GNode) (out3 : List (List Int)) (m : Nat) (x57 : Int) : Option (List (List Int)) :=
 if (ltI x57 ((m : Nat) : Int)) then
  mkN (addI (lenL b) 1) 8 >>= fun m2 =>
  getI out3 x57 >>= fun x58 =>
  impl_longest_l8 a b (out3.set (Int.toNat x57) (List.replicate m2 0)) m (addI x57 1)
 else
  impl_longest_l25 a b out3 (subI (lenL a) 1)
 partial_fixpoint
def impl_longest (a : List GNode) (b : List GNode) : Option (List (List Int)) :=
 mkN (addI (lenL a) 1) 24 >>= fun m =>
 impl_longest_l8 a b (List.replicate m []) m 0
def impl_Align_l12 (a : List GNode) (b : List GNode) (r : List (List Int)) (out : List (Int)) (k : Int) (i : Int) : Option (List Int) :=
 if (ltI i (lenL a)) then
  if (eqI k (lenL b)) then
   room (out.length + 1) 8 >>= fun x_3 =>
   impl_Align_l12 a b r (out ++ [(-1)]) k (addI i 1)
  else
   getI a i >>= fun x6 =>
   getI b k >>= fun x7 =>
   impl_SameNode x6 x7 >>= fun r2 =>
   if r2 then
    room (out.length + 1) 8 >>= fun x_4 =>
    impl_Align_l12 a b r (out ++ [k]) (addI k 1) (addI i 1)
   else
    getI r (addI i 1) >>= fun x8 =>
    getI x8 k >>= fun x9 =>
    getI r i >>= fun x10 =>
    getI x10 (addI k 1) >>= fun x11 =>
    if (geI x9 x11) then
     room (out.length + 1) 8 >>= fun x_5 =>
     impl_Align_l12 a b r (out ++ [(-1)]) k (addI i 1)
    else
     impl_Align_l12 a b r out (addI k 1) i
 else
  some out
 partial_fixpoint
def pc_impl_Align_l12 := @impl_Align_l12.partial_correctness
def impl_Align (a : List GNode) (b : List GNode) : Option (List Int) :=
 impl_longest a b >>= fun r =>
 impl_Align_l12 a b r [] 0 0
def spec_DrawSameName (code : List Int) : Option (GNode × GNode) :=
 spec_l1New code >>= fun r =>
 spec_l5El r [] 1 >>= fun r1 =>
 spec_l5El r1.2.1 [] r1.2.2 >>= fun r2 =>
 spec_l1Once r2.2.1 3 >>= fun r3 =>
 if r3.1 then
  room (0 + r1.1.Decls.length) 32 >>= fun x_ =>
  some (r1.1, (GNode.mk r2.1.Kind r1.1.Pre r1.1.Local r1.1.Uri ([] ++ r1.1.Decls) r2.1.Attrs r2.1.Kids r2.1.Text))
 else
  some (r1.1, r2.1)
mutual
def spec_SameNode (a : GNode) (b : GNode) : Option (Bool) :=
 if (neI a.Kind b.Kind) then
  some false
 else
  if (neS a.Pre b.Pre) then
   some false
  else
   if (neS a.Local b.Local) then
    some false
   else
    if (neS a.Uri b.Uri) then
     some false
    else
     if (neS a.Text b.Text) then
      some false
     else
      if (neI (lenL a.Decls) (lenL b.Decls)) then
       some false
      else
       if (neI (lenL a.Attrs) (lenL b.Attrs)) then
        some false
       else
        if (neI (lenL a.Kids) (lenL b.Kids)) then
         some false
        else
         spec_SameNode_l14 0 a b
 partial_fixpoint
def spec_SameNode_l56 (i6 : Int) (a : GNode) (b : GNode) : Option (Bool) :=
 if (ltI i6 (lenL a.Kids)) then
  getI a.Kids i6 >>= fun x26 =>
  getI b.Kids i6 >>= fun x27 =>
  spec_SameNode x26 x27 >>= fun r7 =>
  if r7 then
   spec_SameNode_l56 (addI i6 1) a b
  else
   some false
 else
  some true
 partial_fixpoint
def spec_SameNode_l35 (i5 : Int) (a : GNode) (b : GNode) : Option (Bool) :=
 if (ltI i5 (lenL a.Attrs)) then
  getI a.Attrs i5 >>= fun x22 =>
  getI b.Attrs i5 >>= fun x23 =>
  if (eqS x22.Pre x23.Pre && (eqS x22.Local x23.Local && (eqS x22.Uri x23.Uri && eqS x22.Val x23.Val))) then
   spec_SameNode_l35 (addI i5 1) a b
  else
   some false
 else
  spec_SameNode_l56 0 a b
 partial_fixpoint
def spec_SameNode_l14 (i3 : Int) (a : GNode) (b : GNode) : Option (Bool) :=
 if (ltI i3 (lenL a.Decls)) then
  getI a.Decls i3 >>= fun x14 =>
  getI b.Decls i3 >>= fun x15 =>
  if (eqS x14.Pre x15.Pre && eqS x14.Uri x15.Uri) then
   spec_SameNode_l14 (addI i3 1) a b
  else
   some false
 else
  spec_SameNode_l35 0 a b
 partial_fixpoint
end
mutual
def spec_l17Table_j63 (a : List GNode) (b : List GNode) (t6 : List (List Int)) (i2 : Int) (k5 : Int) (n7 : Int) : Option (List (List Int)) :=
 getI a i2 >>= fun x104 =>
 getI b k5 >>= fun x105 =>
 spec_SameNode x104 x105 >>= fun r7 =>
 if r7 then
  getI t6 (addI i2 1) >>= fun x106 =>
  getI x106 (addI k5 1) >>= fun x107 =>
  getI t6 i2 >>= fun x108 =>
  getI x108 k5 >>= fun x109 =>
  spec_l17Table_l52 a b (t6.set (Int.toNat i2) (x108.set (Int.toNat k5) (addI x107 1))) i2 (subI k5 1)
 else
  getI t6 i2 >>= fun x110 =>
  getI x110 k5 >>= fun x111 =>
  spec_l17Table_l52 a b (t6.set (Int.toNat i2) (x110.set (Int.toNat k5) n7)) i2 (subI k5 1)
 partial_fixpoint
def spec_l17Table_l52 (a : List GNode) (b : List GNode) (t6 : List (List Int)) (i2 : Int) (k5 : Int) : Option (List (List Int)) :=
 if (geI k5 0) then
  getI t6 (addI i2 1) >>= fun x98 =>
  getI x98 k5 >>= fun x99 =>
  getI t6 i2 >>= fun x100 =>
  getI x100 (addI k5 1) >>= fun x101 =>
  if (gtI x101 x99) then
   getI t6 i2 >>= fun x102 =>
   getI x102 (addI k5 1) >>= fun x103 =>
   spec_l17Table_j63 a b t6 i2 k5 x103
  else
   spec_l17Table_j63 a b t6 i2 k5 x99
 else
  spec_l17Table_l40 a b t6 (subI i2 1)
 partial_fixpoint
def spec_l17Table_l40 (a : List GNode) (b : List GNode) (t5 : List (List Int)) (i2 : Int) : Option (List (List Int)) :=
 if (geI i2 0) then
  spec_l17Table_l52 a b t5 i2 (subI (lenL b) 1)
 else
  some t5
 partial_fixpoint
end
def pc_spec_l17Table_j63 := @spec_l17Table_j63.mutual_partial_correctness
mutual
def spec_l17Table_l23 (a : List GNode) (b : List GNode) (t3 : List (List Int)) (i1 : Int) (row1 : List (Int)) (k3 : Int) : Option (List (List Int)) :=
 if (leI k3 (lenL b)) then
  room (row1.length + 1) 8 >>= fun x_6 =>
  spec_l17Table_l23 a b t3 i1 (row1 ++ [0]) (addI k3 1)
 else
  room (t3.length + 1) 24 >>= fun x_7 =>
  spec_l17Table_l8 a b (t3 ++ [row1]) (addI i1 1)
 partial_fixpoint
def spec_l17Table_l8 (a : List GNode) (b : List GNode) (t3 : List (List Int)) (i1 : Int) : Option (List (List Int)) :=
 if (leI i1 (lenL a)) then
  spec_l17Table_l23 a b t3 i1 [] 0
 else
  spec_l17Table_l40 a b t3 (subI (lenL a) 1)
 partial_fixpoint
end
def pc_spec_l17Table_l23 := @spec_l17Table_l23.mutual_partial_correctness
def spec_l17Table (a : List GNode) (b : List GNode) : Option (List (List Int)) :=
 spec_l17Table_l8 a b [] 0
def spec_Align_l12 (a : List GNode) (b : List GNode) (r : List (List Int)) (out : List (Int)) (k : Int) (i : Int) : Option (List Int) :=
 if (ltI i (lenL a)) then
  if (eqI k (lenL b)) then
   room (out.length + 1) 8 >>= fun x_3 =>
   spec_Align_l12 a b r (out ++ [(-1)]) k (addI i 1)
  else
   getI a i >>= fun x6 =>
   getI b k >>= fun x7 =>
   spec_SameNode x6 x7 >>= fun r2 =>
   if r2 then
    room (out.length + 1) 8 >>= fun x_4 =>
    spec_Align_l12 a b r (out ++ [k]) (addI k 1) (addI i 1)
   else
    getI r (addI i 1) >>= fun x8 =>
    getI x8 k >>= fun x9 =>
    getI r i >>= fun x10 =>
    getI x10 (addI k 1) >>= fun x11 =>
    if (geI x9 x11) then
     room (out.length + 1) 8 >>= fun x_5 =>
     spec_Align_l12 a b r (out ++ [(-1)]) k (addI i 1)
    else
     spec_Align_l12 a b r out (addI k 1) i
 else
  some out
 partial_fixpoint
def pc_spec_Align_l12 := @spec_Align_l12.partial_correctness
def spec_Align (a : List GNode) (b : List GNode) : Option (List Int) :=
 spec_l17Table a b >>= fun r =>
 spec_Align_l12 a b r [] 0 0
def laws_sameInts_l14 (a : List Int) (b : List Int) (i : Int) : Option (Bool) :=
 if (ltI i (lenL a)) then
  getI a i >>= fun x2 =>
  getI b i >>= fun x3 =>
  if (neI x2 x3) then
   some false
  else
   laws_sameInts_l14 a b (addI i 1)
 else
  some true
 partial_fixpoint
def laws_sameInts (a : List Int) (b : List Int) : Option (Bool) :=
 if (neI (lenL a) (lenL b)) then
  some false
 else
  laws_sameInts_l14 a b 0
def impl_SameName_l14 (a : GNode) (x2 : Int) (b : GNode) : Option (Bool) :=
 if (ltI x2 (lenL a.Decls)) then
  getI a.Decls x2 >>= fun x3 =>
  getI b.Decls x2 >>= fun x4 =>
  if (eqS x3.Pre x4.Pre && eqS x3.Uri x4.Uri) then
   impl_SameName_l14 a (addI x2 1) b
  else
   some false
 else
  some true
 partial_fixpoint
def impl_SameName (a : GNode) (b : GNode) : Option (Bool) :=
 if (neI a.Kind 1) then
  some false
 else
  if (neI b.Kind 1) then
   some false
  else
   if (neS a.Pre b.Pre) then
    some false
   else
    if (neS a.Local b.Local) then
     some false
    else
     if (neS a.Uri b.Uri) then
      some false
     else
      if (neI (lenL a.Decls) (lenL b.Decls)) then
       some false
      else
       impl_SameName_l14 a 0 b
def spec_SameName_l14 (i : Int) (a : GNode) (b : GNode) : Option (Bool) :=
 if (ltI i (lenL a.Decls)) then
  getI a.Decls i >>= fun x2 =>
  getI b.Decls i >>= fun x3 =>
  if (eqS x2.Pre x3.Pre && eqS x2.Uri x3.Uri) then
   spec_SameName_l14 (addI i 1) a b
  else
   some false
 else
  some true
 partial_fixpoint
def spec_SameName (a : GNode) (b : GNode) : Option (Bool) :=
 if (neI a.Kind 1) then
  some false
 else
  if (neI b.Kind 1) then
   some false
  else
   if (neS a.Pre b.Pre) then
    some false
   else
    if (neS a.Local b.Local) then
     some false
    else
     if (neS a.Uri b.Uri) then
      some false
     else
      if (neI (lenL a.Decls) (lenL b.Decls)) then
       some false
      else
       spec_SameName_l14 0 a b
def impl_Longest (a : List GNode) (b : List GNode) : Option (Int) :=
 impl_longest a b >>= fun r =>
 getI r 0 >>= fun x =>
 getI x 0 >>= fun x1 =>
 some x1
def laws_FnAligns_l32 (r1 : List GNode × List GNode) (r2 : List Int) (n : Int) (last : Int) (i : Int) : Option (Bool) :=
 if (ltI i (lenL r2)) then
  getI r2 i >>= fun x3 =>
  if (ltI x3 0) then
   laws_FnAligns_l32 r1 r2 n last (addI i 1)
  else
   if (leI x3 last) then
    some false
   else
    if (geI x3 (lenL r1.2)) then
     some false
    else
     getI r1.1 i >>= fun x4 =>
     getI r1.2 x3 >>= fun x5 =>
     impl_SameNode x4 x5 >>= fun r13 =>
     if r13 then
      laws_FnAligns_l32 r1 r2 (addI n 1) x3 (addI i 1)
     else
      some false
 else
  impl_Longest r1.1 r1.2 >>= fun r14 =>
  if (eqI n r14) then
   impl_Longest r1.2 r1.1 >>= fun r15 =>
   if (eqI n r15) then
    impl_Longest r1.1 r1.1 >>= fun r16 =>
    if (eqI r16 (lenL r1.1)) then
     room (0 + r1.2.length) 144 >>= fun x_2 =>
     room ((0 + r1.2.length) + r1.1.length) 144 >>= fun x_3 =>
     impl_Longest r1.1 (([] ++ r1.2) ++ r1.1) >>= fun r17 =>
     some (eqI r17 (lenL r1.1))
    else
     some false
   else
    some false
  else
   some false
 partial_fixpoint
def laws_FnAligns (code : List Int) : Option (Bool) :=
 laws_big code >>= fun r =>
 if r then
  some true
 else
  spec_DrawAlign code >>= fun r1 =>
  impl_Align r1.1 r1.2 >>= fun r2 =>
  spec_DrawSameName code >>= fun r3 =>
  spec_Align r1.1 r1.2 >>= fun r4 =>
  laws_sameInts r2 r4 >>= fun r5 =>
  if r5 then
   if (neI (lenL r2) (lenL r1.1)) then
    some false
   else
    impl_SameName r3.1 r3.2 >>= fun r6 =>
    spec_SameName r3.1 r3.2 >>= fun r7 =>
    if (neB r6 r7) then
     some false
    else
     laws_FnAligns_l32 r1 r2 0 (-1) 0
  else
   some false
end TT
