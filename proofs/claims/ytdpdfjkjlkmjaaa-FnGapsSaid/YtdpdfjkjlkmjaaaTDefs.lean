import Derived.Test.YtdpdfjkjlkmjaaaTTypes
set_option maxHeartbeats 2000000
set_option linter.unusedVariables false
set_option linter.unusedSimpArgs false
set_option linter.defProp false
set_option maxRecDepth 100000
set_option synthInstance.maxHeartbeats 4000000
set_option synthInstance.maxSize 100000
namespace TT
open Go
def laws_big (code : List Int) : Option (Bool) :=
 some (gtI (lenL code) 1048576)
def spec_l1New_l8 (code : List Int) (h : Int) (i : Int) : Option (Gl1Cur) :=
 if (ltI i (lenL code)) then
  if (ltI i 4000) then
   getI code i >>= fun x1 =>
   spec_l1New_l8 code (andK .i64 (addI (addI (mulI h 137) (wr .i64 x1)) 11) 1073741823) (addI i 1)
  else
   some (Gl1Cur.mk code 0 h)
 else
  some (Gl1Cur.mk code 0 h)
 partial_fixpoint
def spec_l1New (code : List Int) : Option (Gl1Cur) :=
 spec_l1New_l8 code (addI 129371 (lenL code)) 0
def spec_l1Byte (c : Gl1Cur) : Option (Int × Gl1Cur) :=
 shrK .i64 (addI (mulI c.xh 6364136223846793005) 1442695040888963407) 33 >>= fun x =>
 shrK .i64 (addI (mulI c.xh 6364136223846793005) 1442695040888963407) 47 >>= fun x1 =>
 if (ltI c.xi (lenL c.xb)) then
  getI c.xb c.xi >>= fun x2 =>
  some ((andK .i64 (addI (andK .i64 (xorK .i64 x x1) 255) (wr .i64 x2)) 255), (Gl1Cur.mk c.xb (addI c.xi 1) (addI (mulI c.xh 6364136223846793005) 1442695040888963407)))
 else
  some ((andK .i64 (xorK .i64 x x1) 255), (Gl1Cur.mk c.xb c.xi (addI (mulI c.xh 6364136223846793005) 1442695040888963407)))
def spec_l1Below (c : Gl1Cur) (n : Int) : Option (Int × Gl1Cur) :=
 if (leI n 0) then
  some (0, c)
 else
  if (leI n 256) then
   spec_l1Byte c >>= fun r =>
   remI r.1 n >>= fun x =>
   some (x, r.2)
  else
   spec_l1Byte c >>= fun r1 =>
   spec_l1Byte r1.2 >>= fun r2 =>
   spec_l1Byte r2.2 >>= fun r3 =>
   remI (addI (addI (mulI r1.1 65536) (mulI r2.1 256)) r3.1) n >>= fun x1 =>
   some (x1, r3.2)
def spec_l1Str (c : Gl1Cur) (list : List ByteArray) : Option (ByteArray × Gl1Cur) :=
 spec_l1Below c (lenL list) >>= fun r =>
 getI list r.1 >>= fun x =>
 some (x, r.2)
mutual
def spec_l18Small (c : Gl1Cur) (most : Int) : Option (GNode × Gl1Cur × Int) :=
 spec_l1Str c [⟨#[97]⟩, ⟨#[98]⟩, ⟨#[99]⟩] >>= fun r =>
 spec_l1Below r.2 4 >>= fun r1 =>
 spec_l18Small_l8 r1.1 r1.2 most r []
 partial_fixpoint
def spec_l18Small_l8 (i : Int) (c1 : Gl1Cur) (most1 : Int) (r : ByteArray × Gl1Cur) (nKids : List (GNode)) : Option (GNode × Gl1Cur × Int) :=
 if (gtI i 0) then
  if (gtI most1 0) then
   spec_l18Small c1 (subI most1 1) >>= fun r3 =>
   room (nKids.length + 1) 144 >>= fun x_1 =>
   spec_l18Small_l8 (subI i 1) r3.2.1 r3.2.2 r (nKids ++ [r3.1])
  else
   some ((GNode.mk 1 (⟨#[]⟩) r.1 (⟨#[]⟩) [] [] nKids (⟨#[]⟩)), c1, most1)
 else
  some ((GNode.mk 1 (⟨#[]⟩) r.1 (⟨#[]⟩) [] [] nKids (⟨#[]⟩)), c1, most1)
 partial_fixpoint
end
def spec_l1Once (c : Gl1Cur) (n : Int) : Option (Bool × Gl1Cur) :=
 spec_l1Below c n >>= fun r =>
 some ((eqI r.1 0), r.2)
def spec_l4Uri (c : Gl1Cur) : Option (ByteArray × Gl1Cur) :=
 spec_l1Str c [⟨#[117, 114, 110, 58, 117]⟩, ⟨#[117, 114, 110, 58, 118]⟩, ⟨#[117, 114, 110, 58, 119]⟩] >>= fun r =>
 some (r.1, r.2)
def spec_l4Decl (c : Gl1Cur) : Option (GDecl × Gl1Cur) :=
 spec_l1Str c [⟨#[]⟩, ⟨#[112]⟩, ⟨#[113]⟩, ⟨#[114]⟩] >>= fun r =>
 spec_l4Uri r.2 >>= fun r1 =>
 if (eqS r.1 (⟨#[]⟩)) then
  spec_l1Once r1.2 3 >>= fun r2 =>
  if r2.1 then
   some ((GDecl.mk r.1 (⟨#[]⟩)), r2.2)
  else
   some ((GDecl.mk r.1 r1.1), r2.2)
 else
  some ((GDecl.mk r.1 r1.1), r1.2)
def spec_l4Draw_l8 (l : List (GDecl)) (i : Int) (c1 : Gl1Cur) : Option (List GDecl × Gl1Cur) :=
 if (gtI i 0) then
  spec_l4Decl c1 >>= fun r2 =>
  if (eqI (lenL l) 0) then
   room (l.length + 1) 32 >>= fun x_2 =>
   spec_l4Draw_l8 (l ++ [r2.1]) (subI i 1) r2.2
  else
   getI l (subI (lenL l) 1) >>= fun x1 =>
   if (ltS x1.Pre r2.1.Pre) then
    room (l.length + 1) 32 >>= fun x_3 =>
    spec_l4Draw_l8 (l ++ [r2.1]) (subI i 1) r2.2
   else
    spec_l4Draw_l8 l (subI i 1) r2.2
 else
  some (l, c1)
 partial_fixpoint
def spec_l4Draw (c : Gl1Cur) : Option (List GDecl × Gl1Cur) :=
 spec_l1Below c 4 >>= fun r =>
 spec_l4Draw_l8 [] r.1 r.2
def spec_Inner (l : List GDecl) (more : List GDecl) : Option (List GDecl) :=
 room (0 + l.length) 32 >>= fun x_ =>
 room ((0 + l.length) + more.length) 32 >>= fun x_1 =>
 some (([] ++ l) ++ more)
def spec_SpaceOf_l6 (l : List GDecl) (pre : ByteArray) (i : Int) : Option (ByteArray × Bool) :=
 if (geI i 0) then
  getI l i >>= fun x1 =>
  if (eqS x1.Pre pre) then
   some (x1.Uri, true)
  else
   spec_SpaceOf_l6 l pre (subI i 1)
 else
  some (⟨#[]⟩, (eqS pre (⟨#[]⟩)))
 partial_fixpoint
def spec_SpaceOf (l : List GDecl) (pre : ByteArray) : Option (ByteArray × Bool) :=
 spec_SpaceOf_l6 l pre (subI (lenL l) 1)
def spec_l5Val (c : Gl1Cur) : Option (ByteArray × Gl1Cur) :=
 spec_l1Str c [⟨#[]⟩, ⟨#[49]⟩, ⟨#[50]⟩, ⟨#[120, 32, 121]⟩, ⟨#[195, 169]⟩, ⟨#[60, 38, 62, 34]⟩, ⟨#[97, 10, 98]⟩, ⟨#[9]⟩] >>= fun r =>
 some (r.1, r.2)
def spec_l5Less (a : GAttr) (b : GAttr) : Option (Bool) :=
 if (ltS a.Uri b.Uri) then
  some true
 else
  if (eqS a.Uri b.Uri) then
   some (ltS a.Local b.Local)
  else
   some false
mutual
def spec_l5All (l : List GNode) : Option (List GNode) :=
 spec_l5All_l8 l [] 0
 partial_fixpoint
def spec_l5All_l8 (l : List GNode) (out : List (GNode)) (i : Int) : Option (List GNode) :=
 if (ltI i (lenL l)) then
  getI l i >>= fun x1 =>
  spec_l5Copy x1 >>= fun r1 =>
  room (out.length + 1) 144 >>= fun x_1 =>
  spec_l5All_l8 l (out ++ [r1]) (addI i 1)
 else
  some out
 partial_fixpoint
def spec_l5Copy (n : GNode) : Option (GNode) :=
 room (0 + n.Decls.length) 32 >>= fun x_ =>
 room (0 + n.Attrs.length) 64 >>= fun x_1 =>
 spec_l5All n.Kids >>= fun r =>
 some (GNode.mk n.Kind n.Pre n.Local n.Uri ([] ++ n.Decls) ([] ++ n.Attrs) r n.Text)
 partial_fixpoint
end
mutual
def spec_Merge_j29 (l : List GNode) (out : List (GNode)) (i : Int) (x8 : Bool) (x6 : GNode) : Option (List GNode) :=
 if x8 then
  getI out (subI (lenL out) 1) >>= fun x9 =>
  catS x9.Text x6.Text >>= fun x10 =>
  getI out (subI (lenL out) 1) >>= fun x11 =>
  spec_Merge_l8 l (out.set (Int.toNat (subI (lenL out) 1)) (GNode.mk x11.Kind x11.Pre x11.Local x11.Uri x11.Decls x11.Attrs x11.Kids x10)) (addI i 1)
 else
  spec_l5Copy x6 >>= fun r2 =>
  room (out.length + 1) 144 >>= fun x_2 =>
  spec_Merge_l8 l (out ++ [r2]) (addI i 1)
 partial_fixpoint
def spec_Merge_l8 (l : List GNode) (out : List (GNode)) (i : Int) : Option (List GNode) :=
 if (ltI i (lenL l)) then
  getI l i >>= fun x6 =>
  if (eqI x6.Kind 2) then
   if (eqS x6.Text (⟨#[]⟩)) then
    spec_Merge_l8 l out (addI i 1)
   else
    if (gtI (lenL out) 0) then
     getI out (subI (lenL out) 1) >>= fun x7 =>
     spec_Merge_j29 l out i (eqI x7.Kind 2) x6
    else
     spec_Merge_j29 l out i false x6
  else
   spec_l5Copy x6 >>= fun r3 =>
   room (out.length + 1) 144 >>= fun x_3 =>
   spec_Merge_l8 l (out ++ [r3]) (addI i 1)
 else
  some out
 partial_fixpoint
end
def spec_Merge (l : List GNode) : Option (List GNode) :=
 spec_Merge_l8 l [] 0
mutual
def spec_l5El (c : Gl1Cur) (in1 : List GDecl) (most : Int) : Option (GNode × Gl1Cur × Int) :=
 spec_l1Str c [⟨#[97]⟩, ⟨#[98]⟩, ⟨#[99]⟩, ⟨#[105, 116, 101, 109]⟩] >>= fun r =>
 spec_l1Once r.2 4 >>= fun r1 =>
 if r1.1 then
  spec_l4Draw r1.2 >>= fun r2 =>
  spec_l5El_j4 in1 r2.2 most r r2.1
 else
  spec_l5El_j4 in1 r1.2 most r []
 partial_fixpoint
def spec_l5El_j4 (in1 : List GDecl) (c1 : Gl1Cur) (most : Int) (r : ByteArray × Gl1Cur) (nDecls : List (GDecl)) : Option (GNode × Gl1Cur × Int) :=
 spec_Inner in1 nDecls >>= fun r3 =>
 spec_l1Once c1 4 >>= fun r4 =>
 if r4.1 then
  spec_l1Str r4.2 [⟨#[112]⟩, ⟨#[113]⟩] >>= fun r5 =>
  spec_l5El_j12 r3 r5.2 most r5.1 r nDecls
 else
  spec_l5El_j12 r3 r4.2 most (⟨#[]⟩) r nDecls
 partial_fixpoint
def spec_l5El_j12 (r3 : List GDecl) (c2 : Gl1Cur) (most : Int) (nPre : ByteArray) (r : ByteArray × Gl1Cur) (nDecls : List (GDecl)) : Option (GNode × Gl1Cur × Int) :=
 spec_SpaceOf r3 nPre >>= fun r6 =>
 if r6.2 then
  spec_l5El_j20 r3 r6.1 c2 most nPre r nDecls
 else
  spec_SpaceOf r3 (⟨#[]⟩) >>= fun r7 =>
  spec_l5El_j20 r3 r7.1 c2 most (⟨#[]⟩) r nDecls
 partial_fixpoint
def spec_l5El_j20 (r3 : List GDecl) (u : ByteArray) (c2 : Gl1Cur) (most : Int) (nPre1 : ByteArray) (r : ByteArray × Gl1Cur) (nDecls : List (GDecl)) : Option (GNode × Gl1Cur × Int) :=
 spec_l1Below c2 3 >>= fun r8 =>
 spec_l5El_l34 r3 r8.1 r8.2 most nPre1 r u nDecls []
 partial_fixpoint
def spec_l5El_j49 (r3 : List GDecl) (i1 : Int) (r31 : ByteArray × Gl1Cur) (most : Int) (nPre1 : ByteArray) (r : ByteArray × Gl1Cur) (u : ByteArray) (nDecls : List (GDecl)) (nAttrs : List (GAttr)) (a1 : GAttr) : Option (GNode × Gl1Cur × Int) :=
 if (eqI (lenL nAttrs) 0) then
  room (nAttrs.length + 1) 64 >>= fun x_10 =>
  spec_l5El_l34 r3 (subI i1 1) r31.2 most nPre1 r u nDecls (nAttrs ++ [a1])
 else
  getI nAttrs (subI (lenL nAttrs) 1) >>= fun x3 =>
  spec_l5Less x3 a1 >>= fun r33 =>
  if r33 then
   room (nAttrs.length + 1) 64 >>= fun x_11 =>
   spec_l5El_l34 r3 (subI i1 1) r31.2 most nPre1 r u nDecls (nAttrs ++ [a1])
  else
   spec_l5El_l34 r3 (subI i1 1) r31.2 most nPre1 r u nDecls nAttrs
 partial_fixpoint
def spec_l5El_j81 (r3 : List GDecl) (i2 : Int) (r42 : Int × Gl1Cur) (x5 : Bool) (most2 : Int) (nPre1 : ByteArray) (r : ByteArray × Gl1Cur) (u : ByteArray) (nDecls : List (GDecl)) (nAttrs : List (GAttr)) (nKids1 : List (GNode)) : Option (GNode × Gl1Cur × Int) :=
 if x5 then
  spec_l1Str r42.2 [⟨#[120]⟩, ⟨#[121]⟩, ⟨#[32]⟩, ⟨#[10, 32, 32]⟩, ⟨#[49]⟩, ⟨#[226, 130, 172, 60]⟩] >>= fun r43 =>
  room (nKids1.length + 1) 144 >>= fun x_16 =>
  spec_l5El_l67 r3 (subI i2 1) r43.2 (subI most2 1) nPre1 r u nDecls nAttrs (nKids1 ++ [(GNode.mk 2 (⟨#[]⟩) (⟨#[]⟩) (⟨#[]⟩) [] [] [] r43.1)])
 else
  if (eqI r42.1 2) then
   spec_l1Str r42.2 [⟨#[]⟩, ⟨#[110]⟩, ⟨#[32, 109, 32]⟩] >>= fun r44 =>
   room (nKids1.length + 1) 144 >>= fun x_17 =>
   spec_l5El_l67 r3 (subI i2 1) r44.2 (subI most2 1) nPre1 r u nDecls nAttrs (nKids1 ++ [(GNode.mk 3 (⟨#[]⟩) (⟨#[]⟩) (⟨#[]⟩) [] [] [] r44.1)])
  else
   if (eqI r42.1 3) then
    spec_l1Str r42.2 [⟨#[]⟩, ⟨#[103, 111]⟩] >>= fun r45 =>
    room (nKids1.length + 1) 144 >>= fun x_18 =>
    spec_l5El_l67 r3 (subI i2 1) r45.2 (subI most2 1) nPre1 r u nDecls nAttrs (nKids1 ++ [(GNode.mk 4 (⟨#[]⟩) (⟨#[116]⟩) (⟨#[]⟩) [] [] [] r45.1)])
   else
    spec_l5El r42.2 r3 (subI most2 1) >>= fun r46 =>
    room (nKids1.length + 1) 144 >>= fun x_19 =>
    spec_l5El_l67 r3 (subI i2 1) r46.2.1 r46.2.2 nPre1 r u nDecls nAttrs (nKids1 ++ [r46.1])
 partial_fixpoint
def spec_l5El_l67 (r3 : List GDecl) (i2 : Int) (c5 : Gl1Cur) (most2 : Int) (nPre1 : ByteArray) (r : ByteArray × Gl1Cur) (u : ByteArray) (nDecls : List (GDecl)) (nAttrs : List (GAttr)) (nKids1 : List (GNode)) : Option (GNode × Gl1Cur × Int) :=
 if (gtI i2 0) then
  if (gtI most2 0) then
   spec_l1Below c5 6 >>= fun r42 =>
   if (eqI r42.1 0) then
    spec_l5El_j81 r3 i2 r42 true most2 nPre1 r u nDecls nAttrs nKids1
   else
    spec_l5El_j81 r3 i2 r42 (eqI r42.1 1) most2 nPre1 r u nDecls nAttrs nKids1
  else
   spec_Merge nKids1 >>= fun r47 =>
   some ((GNode.mk 1 nPre1 r.1 u nDecls nAttrs r47 (⟨#[]⟩)), c5, most2)
 else
  spec_Merge nKids1 >>= fun r48 =>
  some ((GNode.mk 1 nPre1 r.1 u nDecls nAttrs r48 (⟨#[]⟩)), c5, most2)
 partial_fixpoint
def spec_l5El_l34 (r3 : List GDecl) (i1 : Int) (c4 : Gl1Cur) (most : Int) (nPre1 : ByteArray) (r : ByteArray × Gl1Cur) (u : ByteArray) (nDecls : List (GDecl)) (nAttrs : List (GAttr)) : Option (GNode × Gl1Cur × Int) :=
 if (gtI i1 0) then
  spec_l1Str c4 [⟨#[105, 100]⟩, ⟨#[107]⟩, ⟨#[118]⟩] >>= fun r29 =>
  spec_l5Val r29.2 >>= fun r30 =>
  spec_l1Str r30.2 [⟨#[]⟩, ⟨#[]⟩, ⟨#[112]⟩] >>= fun r31 =>
  spec_SpaceOf r3 r31.1 >>= fun r32 =>
  if (neS r31.1 (⟨#[]⟩)) then
   if r32.2 then
    spec_l5El_j49 r3 i1 r31 most nPre1 r u nDecls nAttrs (GAttr.mk r31.1 r29.1 r32.1 r30.1)
   else
    spec_l5El_j49 r3 i1 r31 most nPre1 r u nDecls nAttrs (GAttr.mk (⟨#[]⟩) r29.1 (⟨#[]⟩) r30.1)
  else
   spec_l5El_j49 r3 i1 r31 most nPre1 r u nDecls nAttrs (GAttr.mk (⟨#[]⟩) r29.1 (⟨#[]⟩) r30.1)
 else
  spec_l1Below c4 4 >>= fun r34 =>
  spec_l5El_l67 r3 r34.1 r34.2 most nPre1 r u nDecls nAttrs []
 partial_fixpoint
end
def pc_spec_l5El := @spec_l5El.mutual_partial_correctness
mutual
def spec_CountOf (n : GNode) : Option (Int) :=
 spec_CountOf_l8 (addI 1 (lenL n.Attrs)) 0 n
 partial_fixpoint
def spec_CountOf_l8 (k : Int) (i : Int) (n : GNode) : Option (Int) :=
 if (ltI i (lenL n.Kids)) then
  getI n.Kids i >>= fun x1 =>
  spec_CountOf x1 >>= fun r1 =>
  spec_CountOf_l8 (addI k r1) (addI i 1) n
 else
  some k
 partial_fixpoint
end
def spec_l1In (a0 : Int) (least : Int) (most : Int) : Option (Bool) :=
 if (geI a0 least) then
  some (leI a0 most)
 else
  some false
def spec_SignAt_l55 (s : ByteArray) (at1 : Int) (n : Int) (least : Int) (v1 : Int) (i : Int) : Option (Int × Int × Bool) :=
 if (leI i n) then
  atS s (addI at1 i) >>= fun x4 =>
  if (ltI (wr .i64 x4) 128) then
   some (0, 0, false)
  else
   if (gtI (wr .i64 x4) 191) then
    some (0, 0, false)
   else
    spec_SignAt_l55 s at1 n least (subI (addI (mulI v1 64) (wr .i64 x4)) 128) (addI i 1)
 else
  if (ltI v1 least) then
   some (0, 0, false)
  else
   if (gtI v1 1114111) then
    some (0, 0, false)
   else
    spec_l1In v1 55296 57343 >>= fun r1 =>
    if r1 then
     some (0, 0, false)
    else
     some (v1, (addI (addI at1 1) n), true)
 partial_fixpoint
def pc_spec_SignAt_l55 := @spec_SignAt_l55.partial_correctness
def spec_SignAt_j26 (s : ByteArray) (at1 : Int) (n : Int) (least : Int) (v : Int) : Option (Int × Int × Bool) :=
 if (gtI at1 (subI (subI (lenS s) 1) n)) then
  some (0, 0, false)
 else
  spec_SignAt_l55 s at1 n least v 1
def spec_SignAt_j32 (s : ByteArray) (at1 : Int) (x : Int) (x2 : Bool) : Option (Int × Int × Bool) :=
 if x2 then
  spec_SignAt_j26 s at1 2 2048 (andK .i64 (wr .i64 x) 15)
 else
  if (geI (wr .i64 x) 240) then
   if (ltI (wr .i64 x) 248) then
    spec_SignAt_j26 s at1 3 65536 (andK .i64 (wr .i64 x) 7)
   else
    some (0, 0, false)
  else
   some (0, 0, false)
def spec_SignAt_j28 (s : ByteArray) (at1 : Int) (x : Int) (x1 : Bool) : Option (Int × Int × Bool) :=
 if x1 then
  spec_SignAt_j26 s at1 1 128 (andK .i64 (wr .i64 x) 31)
 else
  if (geI (wr .i64 x) 224) then
   spec_SignAt_j32 s at1 x (ltI (wr .i64 x) 240)
  else
   spec_SignAt_j32 s at1 x false
def spec_SignAt (s : ByteArray) (at1 : Int) : Option (Int × Int × Bool) :=
 if (ltI at1 0) then
  some (0, 0, false)
 else
  if (geI at1 (lenS s)) then
   some (0, 0, false)
  else
   atS s at1 >>= fun x =>
   if (ltI (wr .i64 x) 128) then
    some ((wr .i64 x), (addI at1 1), true)
   else
    if (geI (wr .i64 x) 192) then
     spec_SignAt_j28 s at1 x (ltI (wr .i64 x) 224)
    else
     spec_SignAt_j28 s at1 x false
def spec_l1Ranges_l6 (n : Int) (l : List Int) (i : Int) : Option (Bool) :=
 if (ltI (addI i 1) (lenL l)) then
  getI l i >>= fun x2 =>
  getI l (addI i 1) >>= fun x3 =>
  spec_l1In n x2 x3 >>= fun r1 =>
  if r1 then
   some true
  else
   spec_l1Ranges_l6 n l (addI i 2)
 else
  some false
 partial_fixpoint
def spec_l1Ranges (n : Int) (l : List Int) : Option (Bool) :=
 spec_l1Ranges_l6 n l 0
def spec_IsStart (n : Int) : Option (Bool) :=
 spec_l1Ranges n [65, 90, 95, 95, 97, 122, 192, 214, 216, 246, 248, 767, 880, 893, 895, 8191, 8204, 8205, 8304, 8591, 11264, 12271, 12289, 55295, 63744, 64975, 65008, 65533, 65536, 983039] >>= fun r =>
 some r
def spec_IsPart (n : Int) : Option (Bool) :=
 spec_IsStart n >>= fun r =>
 if r then
  some true
 else
  spec_l1Ranges n [45, 46, 48, 57, 183, 183, 768, 879, 8255, 8256] >>= fun r1 =>
  some r1
def spec_PlainOk_l14 (s : ByteArray) (at1 : Int) : Option (Bool) :=
 if (ltI at1 (lenS s)) then
  spec_SignAt s at1 >>= fun r5 =>
  if r5.2.2 then
   if (eqI at1 0) then
    spec_IsStart r5.1 >>= fun r6 =>
    if r6 then
     spec_IsPart r5.1 >>= fun r7 =>
     if r7 then
      spec_PlainOk_l14 s r5.2.1
     else
      some false
    else
     some false
   else
    spec_IsPart r5.1 >>= fun r8 =>
    if r8 then
     spec_PlainOk_l14 s r5.2.1
    else
     some false
  else
   some false
 else
  some true
 partial_fixpoint
def spec_PlainOk (s : ByteArray) : Option (Bool) :=
 spec_l1In (lenS s) 1 16 >>= fun r =>
 if r then
  spec_PlainOk_l14 s 0
 else
  some false
def spec_l4Xml (s : ByteArray) : Option (Bool) :=
 if (geI (lenS s) 3) then
  subS s 0 3 >>= fun x =>
  some (eqS x (⟨#[120, 109, 108]⟩))
 else
  some false
def spec_l5Pre (s : ByteArray) : Option (Bool) :=
 if (eqS s (⟨#[]⟩)) then
  some true
 else
  spec_PlainOk s >>= fun r =>
  if r then
   spec_l4Xml s >>= fun r1 =>
   some (!r1)
  else
   some false
def spec_IsSign (n : Int) : Option (Bool) :=
 if (eqI n 9) then
  some true
 else
  if (eqI n 10) then
   some true
  else
   if (eqI n 13) then
    some true
   else
    spec_l1In n 32 55295 >>= fun r =>
    if r then
     some true
    else
     spec_l1In n 57344 65533 >>= fun r1 =>
     if r1 then
      some true
     else
      spec_l1In n 65536 1114111 >>= fun r2 =>
      some r2
def spec_l1Signs_l6 (s : ByteArray) (at1 : Int) : Option (Bool) :=
 if (ltI at1 (lenS s)) then
  spec_SignAt s at1 >>= fun r2 =>
  if r2.2.2 then
   spec_IsSign r2.1 >>= fun r3 =>
   if r3 then
    spec_l1Signs_l6 s r2.2.1
   else
    some false
  else
   some false
 else
  some (leI (lenS s) 1500)
 partial_fixpoint
def spec_l1Signs (s : ByteArray) : Option (Bool) :=
 spec_l1Signs_l6 s 0
def spec_TextOk (s : ByteArray) : Option (Bool) :=
 if (leI (lenS s) 600) then
  spec_l1Signs s >>= fun r =>
  some r
 else
  some false
def spec_DeclOk_j2 (d : GDecl) : Option (Bool) :=
 spec_TextOk d.Uri >>= fun r2 =>
 if r2 then
  some (leI (lenS d.Uri) 40)
 else
  some false
def spec_DeclOk (d : GDecl) : Option (Bool) :=
 if (neS d.Pre (⟨#[]⟩)) then
  spec_PlainOk d.Pre >>= fun r =>
  if r then
   spec_l4Xml d.Pre >>= fun r1 =>
   if r1 then
    some false
   else
    if (eqS d.Uri (⟨#[]⟩)) then
     some false
    else
     spec_DeclOk_j2 d
  else
   some false
 else
  spec_DeclOk_j2 d
def spec_DeclsOk_l6 (l : List GDecl) (i : Int) : Option (Bool) :=
 if (ltI i (lenL l)) then
  getI l i >>= fun x2 =>
  spec_DeclOk x2 >>= fun r1 =>
  if r1 then
   if (gtI i 0) then
    getI l (subI i 1) >>= fun x3 =>
    if (geS x3.Pre x2.Pre) then
     some false
    else
     spec_DeclsOk_l6 l (addI i 1)
   else
    spec_DeclsOk_l6 l (addI i 1)
  else
   some false
 else
  some (leI (lenL l) 4)
 partial_fixpoint
def spec_DeclsOk (l : List GDecl) : Option (Bool) :=
 spec_DeclsOk_l6 l 0
def spec_l5Bare (n : GNode) : Option (Bool) :=
 if (eqS n.Pre (⟨#[]⟩)) then
  if (eqS n.Uri (⟨#[]⟩)) then
   if (eqI (lenL n.Decls) 0) then
    if (eqI (lenL n.Attrs) 0) then
     some (eqI (lenL n.Kids) 0)
    else
     some false
   else
    some false
  else
   some false
 else
  some false
def spec_l5Has_l6 (s : ByteArray) (t : ByteArray) (i : Int) : Option (Bool) :=
 if (leI (addI i (lenS t)) (lenS s)) then
  subS s i (addI i (lenS t)) >>= fun x1 =>
  if (eqS x1 t) then
   some true
  else
   spec_l5Has_l6 s t (addI i 1)
 else
  some false
 partial_fixpoint
def spec_l5Has (s : ByteArray) (t : ByteArray) : Option (Bool) :=
 spec_l5Has_l6 s t 0
def spec_l5Xml (s : ByteArray) : Option (Bool) :=
 if (neI (lenS s) 3) then
  some false
 else
  atS s 0 >>= fun x =>
  if (eqI x 120) then
   atS s 1 >>= fun x1 =>
   if (eqI x1 109) then
    atS s 2 >>= fun x2 =>
    if (eqI x2 108) then
     some true
    else
     atS s 2 >>= fun x3 =>
     some (eqI x3 76)
   else
    atS s 1 >>= fun x4 =>
    if (eqI x4 77) then
     atS s 2 >>= fun x5 =>
     if (eqI x5 108) then
      some true
     else
      atS s 2 >>= fun x6 =>
      some (eqI x6 76)
    else
     some false
  else
   atS s 0 >>= fun x7 =>
   if (eqI x7 88) then
    atS s 1 >>= fun x8 =>
    if (eqI x8 109) then
     atS s 2 >>= fun x9 =>
     if (eqI x9 108) then
      some true
     else
      atS s 2 >>= fun x10 =>
      some (eqI x10 76)
    else
     atS s 1 >>= fun x11 =>
     if (eqI x11 77) then
      atS s 2 >>= fun x12 =>
      if (eqI x12 108) then
       some true
      else
       atS s 2 >>= fun x13 =>
       some (eqI x13 76)
     else
      some false
   else
    some false
def spec_IsBlank (n : Int) : Option (Bool) :=
 if (eqI n 9) then
  some true
 else
  if (eqI n 10) then
   some true
  else
   if (eqI n 13) then
    some true
   else
    some (eqI n 32)
def spec_l5AttrOk_j2 (a : GAttr) : Option (Bool) :=
 spec_TextOk a.Val >>= fun r2 =>
 if r2 then
  spec_TextOk a.Uri >>= fun r3 =>
  if r3 then
   some (leI (lenS a.Uri) 40)
  else
   some false
 else
  some false
def spec_l5AttrOk (a : GAttr) : Option (Bool) :=
 spec_l5Pre a.Pre >>= fun r =>
 if r then
  if (neB (eqS a.Pre (⟨#[]⟩)) (eqS a.Uri (⟨#[]⟩))) then
   some false
  else
   spec_PlainOk a.Local >>= fun r1 =>
   if r1 then
    if (eqS a.Pre (⟨#[]⟩)) then
     if (eqS a.Local (⟨#[120, 109, 108, 110, 115]⟩)) then
      some false
     else
      spec_l5AttrOk_j2 a
    else
     spec_l5AttrOk_j2 a
   else
    some false
 else
  some false
def spec_l5One_l21 (i : Int) (n : GNode) : Option (Bool) :=
 if (ltI i (lenL n.Attrs)) then
  getI n.Attrs i >>= fun x2 =>
  spec_l5AttrOk x2 >>= fun r8 =>
  if r8 then
   if (gtI i 0) then
    getI n.Attrs (subI i 1) >>= fun x3 =>
    spec_l5Less x3 x2 >>= fun r9 =>
    if r9 then
     spec_l5One_l21 (addI i 1) n
    else
     some false
   else
    spec_l5One_l21 (addI i 1) n
  else
   some false
 else
  some true
 partial_fixpoint
def spec_l5One_j9 (n : GNode) : Option (Bool) :=
 spec_l5One_l21 0 n
def spec_l5One (n : GNode) : Option (Bool) :=
 if (eqI n.Kind 1) then
  spec_l5Pre n.Pre >>= fun r =>
  if r then
   spec_PlainOk n.Local >>= fun r1 =>
   if r1 then
    if (neS n.Text (⟨#[]⟩)) then
     some false
    else
     if (neS n.Pre (⟨#[]⟩)) then
      if (eqS n.Uri (⟨#[]⟩)) then
       some false
      else
       spec_TextOk n.Uri >>= fun r2 =>
       if r2 then
        if (gtI (lenS n.Uri) 40) then
         some false
        else
         spec_DeclsOk n.Decls >>= fun r3 =>
         if r3 then
          if (gtI (lenL n.Attrs) 5) then
           some false
          else
           spec_l5One_j9 n
         else
          some false
       else
        some false
     else
      spec_TextOk n.Uri >>= fun r4 =>
      if r4 then
       if (gtI (lenS n.Uri) 40) then
        some false
       else
        spec_DeclsOk n.Decls >>= fun r5 =>
        if r5 then
         if (gtI (lenL n.Attrs) 5) then
          some false
         else
          spec_l5One_j9 n
        else
         some false
      else
       some false
   else
    some false
  else
   some false
 else
  if (eqI n.Kind 2) then
   spec_l5Bare n >>= fun r10 =>
   if r10 then
    if (eqS n.Local (⟨#[]⟩)) then
     if (neS n.Text (⟨#[]⟩)) then
      spec_TextOk n.Text >>= fun r11 =>
      some r11
     else
      some false
    else
     some false
   else
    some false
  else
   if (eqI n.Kind 3) then
    spec_l5Bare n >>= fun r12 =>
    if r12 then
     if (eqS n.Local (⟨#[]⟩)) then
      spec_TextOk n.Text >>= fun r13 =>
      if r13 then
       spec_l5Has n.Text (⟨#[45, 45]⟩) >>= fun r14 =>
       if r14 then
        some false
       else
        spec_l5Has n.Text (⟨#[13]⟩) >>= fun r15 =>
        if r15 then
         some false
        else
         if (eqS n.Text (⟨#[]⟩)) then
          some true
         else
          atS n.Text (subI (lenS n.Text) 1) >>= fun x4 =>
          some (neI x4 45)
      else
       some false
     else
      some false
    else
     some false
   else
    if (eqI n.Kind 4) then
     spec_l5Bare n >>= fun r16 =>
     if r16 then
      spec_PlainOk n.Local >>= fun r17 =>
      if r17 then
       spec_l5Xml n.Local >>= fun r18 =>
       if r18 then
        some false
       else
        spec_TextOk n.Text >>= fun r19 =>
        if r19 then
         spec_l5Has n.Text (⟨#[63, 62]⟩) >>= fun r20 =>
         if r20 then
          some false
         else
          spec_l5Has n.Text (⟨#[13]⟩) >>= fun r21 =>
          if r21 then
           some false
          else
           if (eqS n.Text (⟨#[]⟩)) then
            some true
           else
            atS n.Text 0 >>= fun x5 =>
            spec_IsBlank (wr .i64 x5) >>= fun r22 =>
            some (!r22)
        else
         some false
      else
       some false
     else
      some false
    else
     some false
mutual
def spec_l5Kids (l : List GNode) (deep : Int) : Option (Bool) :=
 spec_l5Kids_l6 l deep 0
 partial_fixpoint
def spec_l5Kids_j17 (l : List GNode) (deep : Int) (i : Int) (x2 : GNode) : Option (Bool) :=
 if (eqI x2.Kind 1) then
  if (eqI deep 7) then
   some false
  else
   spec_l5Kids x2.Kids (addI deep 1) >>= fun r3 =>
   if r3 then
    spec_l5Kids_l6 l deep (addI i 1)
   else
    some false
 else
  spec_l5Kids_l6 l deep (addI i 1)
 partial_fixpoint
def spec_l5Kids_l6 (l : List GNode) (deep : Int) (i : Int) : Option (Bool) :=
 if (ltI i (lenL l)) then
  getI l i >>= fun x2 =>
  spec_l5One x2 >>= fun r2 =>
  if r2 then
   if (eqI x2.Kind 2) then
    if (gtI i 0) then
     getI l (subI i 1) >>= fun x3 =>
     if (eqI x3.Kind 2) then
      some false
     else
      spec_l5Kids_j17 l deep i x2
    else
     spec_l5Kids_j17 l deep i x2
   else
    spec_l5Kids_j17 l deep i x2
  else
   some false
 else
  some true
 partial_fixpoint
end
mutual
def spec_NodeOk_j33 (k2 : Int) (i : Int) (n : GNode) : Option (Bool) :=
 getI n.Kids i >>= fun x3 =>
 if (eqI x3.Kind 2) then
  some false
 else
  spec_NodeOk_l24 k2 (addI i 1) n
 partial_fixpoint
def spec_NodeOk_l24 (k1 : Int) (i : Int) (n : GNode) : Option (Bool) :=
 if (ltI i (lenL n.Kids)) then
  getI n.Kids i >>= fun x2 =>
  if (eqI x2.Kind 1) then
   spec_NodeOk_j33 (addI k1 1) i n
  else
   spec_NodeOk_j33 k1 i n
 else
  if (eqI k1 1) then
   if (eqS n.Pre (⟨#[]⟩)) then
    if (eqS n.Local (⟨#[]⟩)) then
     if (eqS n.Uri (⟨#[]⟩)) then
      if (eqS n.Text (⟨#[]⟩)) then
       if (eqI (lenL n.Decls) 0) then
        if (eqI (lenL n.Attrs) 0) then
         spec_l5Kids n.Kids 0 >>= fun r3 =>
         some r3
        else
         some false
       else
        some false
      else
       some false
     else
      some false
    else
     some false
   else
    some false
  else
   some false
 partial_fixpoint
end
def spec_NodeOk (n : GNode) : Option (Bool) :=
 spec_CountOf n >>= fun r =>
 if (gtI r 60) then
  some false
 else
  if (neI n.Kind 0) then
   spec_l5Kids [n] 0 >>= fun r1 =>
   some r1
  else
   spec_NodeOk_l24 0 0 n
mutual
def spec_FitsIn (n : GNode) (l : List GDecl) : Option (Bool) :=
 spec_Inner l n.Decls >>= fun r =>
 if (eqI n.Kind 1) then
  spec_SpaceOf r n.Pre >>= fun r1 =>
  if r1.2 then
   if (neS r1.1 n.Uri) then
    some false
   else
    spec_FitsIn_j4 r n
  else
   some false
 else
  spec_FitsIn_j4 r n
 partial_fixpoint
def spec_FitsIn_j4 (r : List GDecl) (n : GNode) : Option (Bool) :=
 spec_FitsIn_l22 r 0 n
 partial_fixpoint
def spec_FitsIn_l45 (r : List GDecl) (i2 : Int) (n : GNode) : Option (Bool) :=
 if (ltI i2 (lenL n.Kids)) then
  getI n.Kids i2 >>= fun x5 =>
  spec_FitsIn x5 r >>= fun r7 =>
  if r7 then
   spec_FitsIn_l45 r (addI i2 1) n
  else
   some false
 else
  some true
 partial_fixpoint
def spec_FitsIn_l22 (r : List GDecl) (i1 : Int) (n : GNode) : Option (Bool) :=
 if (ltI i1 (lenL n.Attrs)) then
  getI n.Attrs i1 >>= fun x3 =>
  spec_SpaceOf r x3.Pre >>= fun r5 =>
  if (neS x3.Pre (⟨#[]⟩)) then
   if r5.2 then
    if (neS r5.1 x3.Uri) then
     some false
    else
     spec_FitsIn_l22 r (addI i1 1) n
   else
    some false
  else
   spec_FitsIn_l22 r (addI i1 1) n
 else
  spec_FitsIn_l45 r 0 n
 partial_fixpoint
end
def spec_TreeOk (n : GNode) : Option (Bool) :=
 if (eqI n.Kind 0) then
  spec_NodeOk n >>= fun r =>
  if r then
   spec_FitsIn n [] >>= fun r1 =>
   some r1
  else
   some false
 else
  some false
def spec_l5Draw_j16 (r3 : Bool × Gl1Cur) (nKids1 : List (GNode)) : Option (GNode × Gl1Cur) :=
 spec_TreeOk (GNode.mk 0 (⟨#[]⟩) (⟨#[]⟩) (⟨#[]⟩) [] [] nKids1 (⟨#[]⟩)) >>= fun r4 =>
 if r4 then
  some ((GNode.mk 0 (⟨#[]⟩) (⟨#[]⟩) (⟨#[]⟩) [] [] nKids1 (⟨#[]⟩)), r3.2)
 else
  some ((GNode.mk 0 (⟨#[]⟩) (⟨#[]⟩) (⟨#[]⟩) [] [] [(GNode.mk 1 (⟨#[]⟩) (⟨#[97]⟩) (⟨#[]⟩) [] [] [] (⟨#[]⟩))] (⟨#[]⟩)), r3.2)
def spec_l5Draw_j6 (r1 : Bool × Gl1Cur) (r : Int × Gl1Cur) (nKids : List (GNode)) : Option (GNode × Gl1Cur) :=
 spec_l5El r1.2 [] (addI 3 r.1) >>= fun r2 =>
 room (nKids.length + 1) 144 >>= fun x_1 =>
 spec_l1Once r2.2.1 4 >>= fun r3 =>
 if r3.1 then
  room ((nKids ++ [r2.1]).length + 1) 144 >>= fun x_2 =>
  spec_l5Draw_j16 r3 ((nKids ++ [r2.1]) ++ [(GNode.mk 4 (⟨#[]⟩) (⟨#[116]⟩) (⟨#[]⟩) [] [] [] (⟨#[101, 110, 100]⟩))])
 else
  spec_l5Draw_j16 r3 (nKids ++ [r2.1])
def spec_l5Draw (c : Gl1Cur) : Option (GNode × Gl1Cur) :=
 spec_l1Below c 8 >>= fun r =>
 spec_l1Once r.2 4 >>= fun r1 =>
 if r1.1 then
  room 1 144 >>= fun x_ =>
  spec_l5Draw_j6 r1 r ([] ++ [(GNode.mk 3 (⟨#[]⟩) (⟨#[]⟩) (⟨#[]⟩) [] [] [] (⟨#[104]⟩))])
 else
  spec_l5Draw_j6 r1 r []
def spec_DrawGap (code : List Int) : Option (GNode × GNode) :=
 spec_l1New code >>= fun r =>
 spec_l1Below r 13 >>= fun r1 =>
 spec_l18Small r1.2 r1.1 >>= fun r2 =>
 spec_l1Below r2.2.1 13 >>= fun r3 =>
 spec_l1Once r3.2 6 >>= fun r4 =>
 if r4.1 then
  spec_l5Draw r4.2 >>= fun r5 =>
  some (r2.1, r5.1)
 else
  spec_l18Small r4.2 r3.1 >>= fun r6 =>
  some (r2.1, r6.1)
mutual
def impl_Nodes (n : GNode) : Option (Int) :=
 impl_Nodes_l8 1 n 0
 partial_fixpoint
def impl_Nodes_l8 (out : Int) (n : GNode) (x1 : Int) : Option (Int) :=
 if (ltI x1 (lenL n.Kids)) then
  getI n.Kids x1 >>= fun x2 =>
  impl_Nodes x2 >>= fun r1 =>
  impl_Nodes_l8 (addI out r1) n (addI x1 1)
 else
  some out
 partial_fixpoint
end
def slices_Clone_Decl (s : List (GDecl)) : Option (List GDecl) :=
 room s.length 32 >>= fun _ => some s
def slices_Clone_Attr (s : List (GAttr)) : Option (List GAttr) :=
 room s.length 64 >>= fun _ => some s
mutual
def impl_cloneNode (n : GNode) : Option (GNode) :=
 slices_Clone_Decl n.Decls >>= fun r =>
 slices_Clone_Attr n.Attrs >>= fun r1 =>
 impl_cloneNodes n.Kids >>= fun r2 =>
 some (GNode.mk n.Kind n.Pre n.Local n.Uri r r1 r2 n.Text)
 partial_fixpoint
def impl_cloneNodes (l : List GNode) : Option (List GNode) :=
 impl_cloneNodes_l8 [] l 0
 partial_fixpoint
def impl_cloneNodes_l8 (out : List (GNode)) (l : List GNode) (x1 : Int) : Option (List GNode) :=
 if (ltI x1 (lenL l)) then
  getI l x1 >>= fun x2 =>
  impl_cloneNode x2 >>= fun r1 =>
  room (out.length + 1) 144 >>= fun x_1 =>
  impl_cloneNodes_l8 (out ++ [r1]) l (addI x1 1)
 else
  some out
 partial_fixpoint
end
def impl_Alone (n : GNode) : Option (GNode) :=
 impl_cloneNode (GNode.mk n.Kind n.Pre n.Local n.Uri n.Decls n.Attrs [] n.Text) >>= fun r =>
 some r
mutual
def impl_row_put' (r : Ggaps) (n : GNode) : Option (Ggaps) :=
 impl_row_put'_l8 r n 0 r
 partial_fixpoint
def impl_row_put'_l8 (r : Ggaps) (n : GNode) (x2 : Int) (r3 : Ggaps) : Option (Ggaps) :=
 if (ltI x2 (lenL n.Kids)) then
  getI n.Kids x2 >>= fun x3 =>
  impl_row_put' r3 x3 >>= fun r4 =>
  impl_row_put'_l8 r n (addI x2 1) r4
 else
  impl_Alone n >>= fun r5 =>
  room (r3.xa.xnodes.length + 1) 144 >>= fun x_2 =>
  getI (r3.xa.xnodes ++ [(GNode.mk 0 (⟨#[]⟩) (⟨#[]⟩) (⟨#[]⟩) [] [] [] (⟨#[]⟩))]) (lenL r3.xa.xnodes) >>= fun x4 =>
  room (r3.xa.xfirst.length + 1) 8 >>= fun x_3 =>
  some (Ggaps.mk (Grow.mk ((r3.xa.xnodes ++ [(GNode.mk 0 (⟨#[]⟩) (⟨#[]⟩) (⟨#[]⟩) [] [] [] (⟨#[]⟩))]).set (Int.toNat (lenL r3.xa.xnodes)) r5) (r3.xa.xfirst ++ [(lenL r.xa.xnodes)])) r3.xb r3.xtree)
 partial_fixpoint
end
def impl_row_put_l8 (r : Ggaps) (n : GNode) (x2 : Int) (r3 : Ggaps) : Option (Ggaps) :=
 if (ltI x2 (lenL n.Kids)) then
  getI n.Kids x2 >>= fun x3 =>
  impl_row_put' r3 x3 >>= fun r4 =>
  impl_row_put_l8 r n (addI x2 1) r4
 else
  impl_Alone n >>= fun r5 =>
  room (r3.xa.xnodes.length + 1) 144 >>= fun x_2 =>
  getI (r3.xa.xnodes ++ [(GNode.mk 0 (⟨#[]⟩) (⟨#[]⟩) (⟨#[]⟩) [] [] [] (⟨#[]⟩))]) (lenL r3.xa.xnodes) >>= fun x4 =>
  room (r3.xa.xfirst.length + 1) 8 >>= fun x_3 =>
  some (Ggaps.mk (Grow.mk ((r3.xa.xnodes ++ [(GNode.mk 0 (⟨#[]⟩) (⟨#[]⟩) (⟨#[]⟩) [] [] [] (⟨#[]⟩))]).set (Int.toNat (lenL r3.xa.xnodes)) r5) (r3.xa.xfirst ++ [(lenL r.xa.xnodes)])) r3.xb r3.xtree)
 partial_fixpoint
def impl_row_put (r : Ggaps) (n : GNode) : Option (Ggaps) :=
 impl_row_put_l8 r n 0 r
mutual
def impl_row_put'' (r : Ggaps) (n : GNode) : Option (Ggaps) :=
 impl_row_put''_l8 r n 0 r
 partial_fixpoint
def impl_row_put''_l8 (r : Ggaps) (n : GNode) (x2 : Int) (r3 : Ggaps) : Option (Ggaps) :=
 if (ltI x2 (lenL n.Kids)) then
  getI n.Kids x2 >>= fun x3 =>
  impl_row_put'' r3 x3 >>= fun r4 =>
  impl_row_put''_l8 r n (addI x2 1) r4
 else
  impl_Alone n >>= fun r5 =>
  room (r3.xb.xnodes.length + 1) 144 >>= fun x_2 =>
  getI (r3.xb.xnodes ++ [(GNode.mk 0 (⟨#[]⟩) (⟨#[]⟩) (⟨#[]⟩) [] [] [] (⟨#[]⟩))]) (lenL r3.xb.xnodes) >>= fun x4 =>
  room (r3.xb.xfirst.length + 1) 8 >>= fun x_3 =>
  some (Ggaps.mk r3.xa (Grow.mk ((r3.xb.xnodes ++ [(GNode.mk 0 (⟨#[]⟩) (⟨#[]⟩) (⟨#[]⟩) [] [] [] (⟨#[]⟩))]).set (Int.toNat (lenL r3.xb.xnodes)) r5) (r3.xb.xfirst ++ [(lenL r.xb.xnodes)])) r3.xtree)
 partial_fixpoint
end
def slices_Equal_Decl_l14 (s1 : List GDecl) (s2 : List GDecl) (x2 : Int) : Option (Bool) :=
 if (ltI x2 (lenL s1)) then
  getI s1 x2 >>= fun x3 =>
  getI s2 x2 >>= fun x4 =>
  if (eqS x3.Pre x4.Pre && eqS x3.Uri x4.Uri) then
   slices_Equal_Decl_l14 s1 s2 (addI x2 1)
  else
   some false
 else
  some true
 partial_fixpoint
def slices_Equal_Decl (s1 : List GDecl) (s2 : List GDecl) : Option (Bool) :=
 if (neI (lenL s1) (lenL s2)) then
  some false
 else
  slices_Equal_Decl_l14 s1 s2 0
def slices_Equal_Attr_l14 (s1 : List GAttr) (s2 : List GAttr) (x2 : Int) : Option (Bool) :=
 if (ltI x2 (lenL s1)) then
  getI s1 x2 >>= fun x3 =>
  getI s2 x2 >>= fun x4 =>
  if (eqS x3.Pre x4.Pre && (eqS x3.Local x4.Local && (eqS x3.Uri x4.Uri && eqS x3.Val x4.Val))) then
   slices_Equal_Attr_l14 s1 s2 (addI x2 1)
  else
   some false
 else
  some true
 partial_fixpoint
def slices_Equal_Attr (s1 : List GAttr) (s2 : List GAttr) : Option (Bool) :=
 if (neI (lenL s1) (lenL s2)) then
  some false
 else
  slices_Equal_Attr_l14 s1 s2 0
def impl_sameAlone (a : GNode) (b : GNode) : Option (Bool) :=
 if (eqI a.Kind b.Kind) then
  if (eqS a.Pre b.Pre) then
   if (eqS a.Local b.Local) then
    if (eqS a.Uri b.Uri) then
     if (eqS a.Text b.Text) then
      slices_Equal_Decl a.Decls b.Decls >>= fun r =>
      if r then
       slices_Equal_Attr a.Attrs b.Attrs >>= fun r1 =>
       some r1
      else
       some false
     else
      some false
    else
     some false
   else
    some false
  else
   some false
 else
  some false
def impl_gaps_least_j12 (forest : List (List Int)) (p : Int) (q : Int) (a2 : Int) (y : Int) (x1 : Int) (x3 : Int) (change : Int) (g : Ggaps) : Option (Int × Ggaps) :=
 getI forest (subI p 1) >>= fun x9 =>
 getI x9 (subI q 1) >>= fun x10 =>
 getI g.xtree (subI (addI a2 p) 1) >>= fun x11 =>
 getI x11 (subI (addI y q) 1) >>= fun x12 =>
 some ((minI (addI (minI x1 x3) 1) (addI x10 change)), (Ggaps.mk g.xa g.xb (g.xtree.set (Int.toNat (subI (addI a2 p) 1)) (x11.set (Int.toNat (subI (addI y q) 1)) (minI (addI (minI x1 x3) 1) (addI x10 change))))))
def impl_gaps_least_j7 (forest : List (List Int)) (a2 : Int) (y : Int) (p : Int) (q : Int) (x1 : Int) (x3 : Int) (x6 : Bool) (g : Ggaps) : Option (Int × Ggaps) :=
 if x6 then
  getI g.xa.xnodes (subI (addI a2 p) 1) >>= fun x7 =>
  getI g.xb.xnodes (subI (addI y q) 1) >>= fun x8 =>
  impl_sameAlone x7 x8 >>= fun r =>
  if r then
   impl_gaps_least_j12 forest p q a2 y x1 x3 0 g
  else
   impl_gaps_least_j12 forest p q a2 y x1 x3 1 g
 else
  getI g.xa.xfirst (subI (addI a2 p) 1) >>= fun x13 =>
  getI forest (subI x13 a2) >>= fun x14 =>
  getI g.xb.xfirst (subI (addI y q) 1) >>= fun x15 =>
  getI x14 (subI x15 y) >>= fun x16 =>
  getI g.xtree (subI (addI a2 p) 1) >>= fun x17 =>
  getI x17 (subI (addI y q) 1) >>= fun x18 =>
  some ((minI (addI (minI x1 x3) 1) (addI x16 x18)), g)
def impl_gaps_least (g : Ggaps) (forest : List (List Int)) (a2 : Int) (y : Int) (p : Int) (q : Int) : Option (Int × Ggaps) :=
 getI forest (subI p 1) >>= fun x =>
 getI x q >>= fun x1 =>
 getI forest p >>= fun x2 =>
 getI x2 (subI q 1) >>= fun x3 =>
 getI g.xa.xfirst (subI (addI a2 p) 1) >>= fun x4 =>
 if (eqI x4 a2) then
  getI g.xb.xfirst (subI (addI y q) 1) >>= fun x5 =>
  impl_gaps_least_j7 forest a2 y p q x1 x3 (eqI x5 y) g
 else
  impl_gaps_least_j7 forest a2 y p q x1 x3 false g
mutual
def impl_gaps_count_l38 (x : Int) (x1 : Int) (forest6 : List (List Int)) (x48 : Int) (forest3 : List (List Int)) (x49 : List Int) (x56 : Int) (g6 : Ggaps) : Option (Ggaps) :=
 if (ltI x56 (lenL x49)) then
  if (eqI x48 0) then
   getI forest6 x48 >>= fun x57 =>
   getI x57 x56 >>= fun x58 =>
   impl_gaps_count_l38 x x1 (forest6.set (Int.toNat x48) (x57.set (Int.toNat x56) x56)) x48 forest3 x49 (addI x56 1) g6
  else
   if (eqI x56 0) then
    getI forest6 x48 >>= fun x59 =>
    getI x59 x56 >>= fun x60 =>
    impl_gaps_count_l38 x x1 (forest6.set (Int.toNat x48) (x59.set (Int.toNat x56) x48)) x48 forest3 x49 (addI x56 1) g6
   else
    getI forest6 x48 >>= fun x61 =>
    impl_gaps_least g6 forest6 x x1 x48 x56 >>= fun r7 =>
    getI x61 x56 >>= fun x62 =>
    impl_gaps_count_l38 x x1 (forest6.set (Int.toNat x48) (x61.set (Int.toNat x56) r7.1)) x48 forest3 x49 (addI x56 1) r7.2
 else
  impl_gaps_count_l24 x x1 forest6 forest3 (addI x48 1) g6
 partial_fixpoint
def impl_gaps_count_l24 (x : Int) (x1 : Int) (forest5 : List (List Int)) (forest3 : List (List Int)) (x48 : Int) (g5 : Ggaps) : Option (Ggaps) :=
 if (ltI x48 (lenL forest3)) then
  getI forest5 x48 >>= fun x49 =>
  impl_gaps_count_l38 x x1 forest5 x48 forest3 x49 0 g5
 else
  some g5
 partial_fixpoint
end
def pc_impl_gaps_count_l38 := @impl_gaps_count_l38.mutual_partial_correctness
def impl_gaps_count_l8 (k : Int) (x : Int) (x1 : Int) (forest3 : List (List Int)) (m : Nat) (x32 : Int) (g : Ggaps) : Option (Ggaps) :=
 if (ltI x32 ((m : Nat) : Int)) then
  mkN (addI (subI k x1) 2) 8 >>= fun m2 =>
  getI forest3 x32 >>= fun x33 =>
  impl_gaps_count_l8 k x x1 (forest3.set (Int.toNat x32) (List.replicate m2 0)) m (addI x32 1) g
 else
  impl_gaps_count_l24 x x1 forest3 forest3 0 g
 partial_fixpoint
def pc_impl_gaps_count_l8 := @impl_gaps_count_l8.partial_correctness
def impl_gaps_count (g : Ggaps) (i : Int) (k : Int) : Option (Ggaps) :=
 getI g.xa.xfirst i >>= fun x =>
 getI g.xb.xfirst k >>= fun x1 =>
 mkN (addI (subI i x) 2) 24 >>= fun m =>
 impl_gaps_count_l8 k x x1 (List.replicate m []) m 0 g
mutual
def impl_Gap_l49 (x11 : Int) (r3 : Ggaps) (g4 : Ggaps) (x12 : Int) (g5 : Ggaps) : Option (Int) :=
 if (ltI x12 (lenL g4.xb.xnodes)) then
  impl_gaps_count g5 x11 x12 >>= fun r11 =>
  impl_Gap_l49 x11 r3 g4 (addI x12 1) r11
 else
  impl_Gap_l35 r3 (addI x11 1) g5
 partial_fixpoint
def impl_Gap_l35 (r3 : Ggaps) (x11 : Int) (g4 : Ggaps) : Option (Int) :=
 if (ltI x11 (lenL r3.xa.xnodes)) then
  impl_Gap_l49 x11 r3 g4 0 g4
 else
  getI g4.xtree (subI (lenL g4.xa.xnodes) 1) >>= fun x13 =>
  getI x13 (subI (lenL g4.xb.xnodes) 1) >>= fun x14 =>
  some x14
 partial_fixpoint
end
def impl_Gap_l20 (r3 : Ggaps) (x7 : Int) (gxtree : List (List Int)) : Option (Int) :=
 if (ltI x7 (lenL r3.xa.xnodes)) then
  mkN (lenL r3.xb.xnodes) 8 >>= fun m1 =>
  room (gxtree.length + 1) 24 >>= fun x_1 =>
  impl_Gap_l20 r3 (addI x7 1) (gxtree ++ [(List.replicate m1 0)])
 else
  impl_Gap_l35 r3 0 (Ggaps.mk r3.xa r3.xb gxtree)
 partial_fixpoint
def impl_Gap (a : GNode) (b : GNode) : Option (Int) :=
 impl_Nodes a >>= fun r =>
 if (gtI r 12) then
  some (-1)
 else
  impl_Nodes b >>= fun r1 =>
  if (gtI r1 12) then
   some (-1)
  else
   impl_row_put (Ggaps.mk (Grow.mk [] []) (Grow.mk [] []) []) a >>= fun r2 =>
   impl_row_put'' r2 b >>= fun r3 =>
   impl_Gap_l20 r3 0 r3.xtree
mutual
def spec_Nodes (n : GNode) : Option (Int) :=
 spec_Nodes_l8 1 0 n
 partial_fixpoint
def spec_Nodes_l8 (k : Int) (i : Int) (n : GNode) : Option (Int) :=
 if (ltI i (lenL n.Kids)) then
  getI n.Kids i >>= fun x1 =>
  spec_Nodes x1 >>= fun r1 =>
  spec_Nodes_l8 (addI k r1) (addI i 1) n
 else
  some k
 partial_fixpoint
end
def spec_Alone (n : GNode) : Option (GNode) :=
 spec_l5Copy n >>= fun r =>
 some (GNode.mk r.Kind r.Pre r.Local r.Uri r.Decls r.Attrs [] r.Text)
mutual
def spec_l18Post (n : GNode) (at1 : Int) : Option (List GNode × List Int) :=
 spec_l18Post_l10 at1 [] [] 0 n
 partial_fixpoint
def spec_l18Post_l10 (at1 : Int) (l : List (GNode)) (first : List (Int)) (i : Int) (n : GNode) : Option (List GNode × List Int) :=
 if (ltI i (lenL n.Kids)) then
  getI n.Kids i >>= fun x1 =>
  spec_l18Post x1 (addI at1 (lenL l)) >>= fun r2 =>
  room (l.length + r2.1.length) 144 >>= fun x_4 =>
  room (first.length + r2.2.length) 8 >>= fun x_5 =>
  spec_l18Post_l10 at1 (l ++ r2.1) (first ++ r2.2) (addI i 1) n
 else
  spec_Alone n >>= fun r3 =>
  room (l.length + 1) 144 >>= fun x_6 =>
  room (first.length + 1) 8 >>= fun x_7 =>
  some ((l ++ [r3]), (first ++ [at1]))
 partial_fixpoint
end
mutual
def spec_l18Grid_l23 (n : Int) (m : Int) (t : List (List Int)) (i : Int) (row1 : List (Int)) (k1 : Int) : Option (List (List Int)) :=
 if (ltI k1 m) then
  room (row1.length + 1) 8 >>= fun x_6 =>
  spec_l18Grid_l23 n m t i (row1 ++ [0]) (addI k1 1)
 else
  room (t.length + 1) 24 >>= fun x_7 =>
  spec_l18Grid_l8 n m (t ++ [row1]) (addI i 1)
 partial_fixpoint
def spec_l18Grid_l8 (n : Int) (m : Int) (t : List (List Int)) (i : Int) : Option (List (List Int)) :=
 if (ltI i n) then
  spec_l18Grid_l23 n m t i [] 0
 else
  some t
 partial_fixpoint
end
def pc_spec_l18Grid_l23 := @spec_l18Grid_l23.mutual_partial_correctness
def spec_l18Grid (n : Int) (m : Int) : Option (List (List Int)) :=
 spec_l18Grid_l8 n m [] 0
mutual
def spec_l18Keys_l23 (first : List Int) (out : List (Int)) (i : Int) (last1 : Bool) (k1 : Int) : Option (List Int) :=
 if (ltI k1 (lenL first)) then
  if last1 then
   getI first k1 >>= fun x6 =>
   getI first i >>= fun x7 =>
   spec_l18Keys_l23 first out i (neI x6 x7) (addI k1 1)
  else
   spec_l18Keys_l23 first out i false (addI k1 1)
 else
  if last1 then
   room (out.length + 1) 8 >>= fun x_3 =>
   spec_l18Keys_l8 first (out ++ [i]) (addI i 1)
  else
   spec_l18Keys_l8 first out (addI i 1)
 partial_fixpoint
def spec_l18Keys_l8 (first : List Int) (out : List (Int)) (i : Int) : Option (List Int) :=
 if (ltI i (lenL first)) then
  spec_l18Keys_l23 first out i true (addI i 1)
 else
  some out
 partial_fixpoint
end
def spec_l18Keys (first : List Int) : Option (List Int) :=
 spec_l18Keys_l8 first [] 0
def spec_l18Min (a : Int) (b : Int) : Option (Int) :=
 if (ltI b a) then
  some b
 else
  some a
mutual
def spec_SameNode (a : GNode) (b : GNode) : Option (Bool) :=
 if (neI a.Kind b.Kind) then
  some false
 else
  if (neS a.Pre b.Pre) then
   some false
  else
   if (neS a.Local b.Local) then
    some false
   else
    if (neS a.Uri b.Uri) then
     some false
    else
     if (neS a.Text b.Text) then
      some false
     else
      if (neI (lenL a.Decls) (lenL b.Decls)) then
       some false
      else
       if (neI (lenL a.Attrs) (lenL b.Attrs)) then
        some false
       else
        if (neI (lenL a.Kids) (lenL b.Kids)) then
         some false
        else
         spec_SameNode_l14 0 a b
 partial_fixpoint
def spec_SameNode_l56 (i6 : Int) (a : GNode) (b : GNode) : Option (Bool) :=
 if (ltI i6 (lenL a.Kids)) then
  getI a.Kids i6 >>= fun x26 =>
  getI b.Kids i6 >>= fun x27 =>
  spec_SameNode x26 x27 >>= fun r7 =>
  if r7 then
   spec_SameNode_l56 (addI i6 1) a b
  else
   some false
 else
  some true
 partial_fixpoint
def spec_SameNode_l35 (i5 : Int) (a : GNode) (b : GNode) : Option (Bool) :=
 if (ltI i5 (lenL a.Attrs)) then
  getI a.Attrs i5 >>= fun x22 =>
  getI b.Attrs i5 >>= fun x23 =>
  if (eqS x22.Pre x23.Pre && (eqS x22.Local x23.Local && (eqS x22.Uri x23.Uri && eqS x22.Val x23.Val))) then
   spec_SameNode_l35 (addI i5 1) a b
  else
   some false
 else
  spec_SameNode_l56 0 a b
 partial_fixpoint
def spec_SameNode_l14 (i3 : Int) (a : GNode) (b : GNode) : Option (Bool) :=
 if (ltI i3 (lenL a.Decls)) then
  getI a.Decls i3 >>= fun x14 =>
  getI b.Decls i3 >>= fun x15 =>
  if (eqS x14.Pre x15.Pre && eqS x14.Uri x15.Uri) then
   spec_SameNode_l14 (addI i3 1) a b
  else
   some false
 else
  spec_SameNode_l35 0 a b
 partial_fixpoint
end
mutual
def spec_l18Forest_j67 (a : List GNode) (fa : List Int) (b : List GNode) (fb : List Int) (td12 : List (List Int)) (x : Int) (x1 : Int) (fd14 : List (List Int)) (p4 : Int) (q9 : Int) (r61 : Int) (x385 : Bool) : Option (List (List Int)) :=
 if x385 then
  getI a (subI (addI x p4) 1) >>= fun x386 =>
  getI b (subI (addI x1 q9) 1) >>= fun x387 =>
  spec_SameNode x386 x387 >>= fun r62 =>
  if r62 then
   spec_l18Forest_j72 a fa b fb td12 x x1 fd14 p4 q9 r61 0
  else
   spec_l18Forest_j72 a fa b fb td12 x x1 fd14 p4 q9 r61 1
 else
  getI fa (subI (addI x p4) 1) >>= fun x394 =>
  getI fd14 (subI x394 x) >>= fun x395 =>
  getI fb (subI (addI x1 q9) 1) >>= fun x396 =>
  getI x395 (subI x396 x1) >>= fun x397 =>
  getI td12 (subI (addI x p4) 1) >>= fun x398 =>
  getI x398 (subI (addI x1 q9) 1) >>= fun x399 =>
  spec_l18Min (addI r61 1) (addI x397 x399) >>= fun r64 =>
  getI fd14 p4 >>= fun x400 =>
  getI x400 q9 >>= fun x401 =>
  spec_l18Forest_l51 a fa b fb td12 x x1 (fd14.set (Int.toNat p4) (x400.set (Int.toNat q9) r64)) p4 (addI q9 1)
 partial_fixpoint
def spec_l18Forest_j72 (a : List GNode) (fa : List Int) (b : List GNode) (fb : List Int) (td12 : List (List Int)) (x : Int) (x1 : Int) (fd14 : List (List Int)) (p4 : Int) (q9 : Int) (r61 : Int) (same15 : Int) : Option (List (List Int)) :=
 getI fd14 (subI p4 1) >>= fun x388 =>
 getI x388 (subI q9 1) >>= fun x389 =>
 spec_l18Min (addI r61 1) (addI x389 same15) >>= fun r63 =>
 getI td12 (subI (addI x p4) 1) >>= fun x390 =>
 getI x390 (subI (addI x1 q9) 1) >>= fun x391 =>
 getI fd14 p4 >>= fun x392 =>
 getI x392 q9 >>= fun x393 =>
 spec_l18Forest_l51 a fa b fb (td12.set (Int.toNat (subI (addI x p4) 1)) (x390.set (Int.toNat (subI (addI x1 q9) 1)) r63)) x x1 (fd14.set (Int.toNat p4) (x392.set (Int.toNat q9) r63)) p4 (addI q9 1)
 partial_fixpoint
def spec_l18Forest_l51 (a : List GNode) (fa : List Int) (b : List GNode) (fb : List Int) (td12 : List (List Int)) (x : Int) (x1 : Int) (fd14 : List (List Int)) (p4 : Int) (q9 : Int) : Option (List (List Int)) :=
 getI fd14 0 >>= fun x378 =>
 if (ltI q9 (lenL x378)) then
  getI fd14 (subI p4 1) >>= fun x379 =>
  getI x379 q9 >>= fun x380 =>
  getI fd14 p4 >>= fun x381 =>
  getI x381 (subI q9 1) >>= fun x382 =>
  spec_l18Min x380 x382 >>= fun r61 =>
  getI fa (subI (addI x p4) 1) >>= fun x383 =>
  if (eqI x383 x) then
   getI fb (subI (addI x1 q9) 1) >>= fun x384 =>
   spec_l18Forest_j67 a fa b fb td12 x x1 fd14 p4 q9 r61 (eqI x384 x1)
  else
   spec_l18Forest_j67 a fa b fb td12 x x1 fd14 p4 q9 r61 false
 else
  spec_l18Forest_l39 a fa b fb td12 x x1 fd14 (addI p4 1)
 partial_fixpoint
def spec_l18Forest_l39 (a : List GNode) (fa : List Int) (b : List GNode) (fb : List Int) (td11 : List (List Int)) (x : Int) (x1 : Int) (fd13 : List (List Int)) (p4 : Int) : Option (List (List Int)) :=
 if (ltI p4 (lenL fd13)) then
  spec_l18Forest_l51 a fa b fb td11 x x1 fd13 p4 1
 else
  some td11
 partial_fixpoint
end
def pc_spec_l18Forest_j67 := @spec_l18Forest_j67.mutual_partial_correctness
def spec_l18Forest_l25 (a : List GNode) (fa : List Int) (b : List GNode) (fb : List Int) (td : List (List Int)) (x : Int) (x1 : Int) (fd11 : List (List Int)) (q7 : Int) : Option (List (List Int)) :=
 getI fd11 0 >>= fun x303 =>
 if (ltI q7 (lenL x303)) then
  getI fd11 0 >>= fun x304 =>
  getI x304 q7 >>= fun x305 =>
  spec_l18Forest_l25 a fa b fb td x x1 (fd11.set (Int.toNat 0) (x304.set (Int.toNat q7) q7)) (addI q7 1)
 else
  spec_l18Forest_l39 a fa b fb td x x1 fd11 1
 partial_fixpoint
def pc_spec_l18Forest_l25 := @spec_l18Forest_l25.partial_correctness
def spec_l18Forest_l10 (a : List GNode) (fa : List Int) (b : List GNode) (fb : List Int) (td : List (List Int)) (x : Int) (x1 : Int) (fd7 : List (List Int)) (p2 : Int) : Option (List (List Int)) :=
 if (ltI p2 (lenL fd7)) then
  getI fd7 p2 >>= fun x202 =>
  getI x202 0 >>= fun x203 =>
  spec_l18Forest_l10 a fa b fb td x x1 (fd7.set (Int.toNat p2) (x202.set (Int.toNat 0) p2)) (addI p2 1)
 else
  spec_l18Forest_l25 a fa b fb td x x1 fd7 1
 partial_fixpoint
def pc_spec_l18Forest_l10 := @spec_l18Forest_l10.partial_correctness
def spec_l18Forest (a : List GNode) (fa : List Int) (b : List GNode) (fb : List Int) (i : Int) (j : Int) (td : List (List Int)) : Option (List (List Int)) :=
 getI fa i >>= fun x =>
 getI fb j >>= fun x1 =>
 spec_l18Grid (addI (subI i x) 2) (addI (subI j x1) 2) >>= fun r =>
 spec_l18Forest_l10 a fa b fb td x x1 r 1
mutual
def spec_Gap_l36 (r2 : List GNode × List Int) (r3 : List GNode × List Int) (td2 : List (List Int)) (r5 : List Int) (r6 : List Int) (i : Int) (k1 : Int) : Option (Int) :=
 if (ltI k1 (lenL r6)) then
  getI r5 i >>= fun x8 =>
  getI r6 k1 >>= fun x9 =>
  spec_l18Forest r2.1 r2.2 r3.1 r3.2 x8 x9 td2 >>= fun r10 =>
  sameL r10 td2 >>= fun _ =>
  spec_Gap_l36 r2 r3 r10 r5 r6 i (addI k1 1)
 else
  spec_Gap_l24 r2 r3 td2 r5 r6 (addI i 1)
 partial_fixpoint
def spec_Gap_l24 (r2 : List GNode × List Int) (r3 : List GNode × List Int) (td1 : List (List Int)) (r5 : List Int) (r6 : List Int) (i : Int) : Option (Int) :=
 if (ltI i (lenL r5)) then
  spec_Gap_l36 r2 r3 td1 r5 r6 i 0
 else
  getI td1 (subI (lenL r2.1) 1) >>= fun x10 =>
  getI x10 (subI (lenL r3.1) 1) >>= fun x11 =>
  some x11
 partial_fixpoint
end
def pc_spec_Gap_l36 := @spec_Gap_l36.mutual_partial_correctness
def spec_Gap (a : GNode) (b : GNode) : Option (Int) :=
 spec_Nodes a >>= fun r =>
 if (gtI r 12) then
  some (-1)
 else
  spec_Nodes b >>= fun r1 =>
  if (gtI r1 12) then
   some (-1)
  else
   spec_l18Post a 0 >>= fun r2 =>
   spec_l18Post b 0 >>= fun r3 =>
   spec_l18Grid (lenL r2.1) (lenL r3.1) >>= fun r4 =>
   spec_l18Keys r2.2 >>= fun r5 =>
   spec_l18Keys r3.2 >>= fun r6 =>
   spec_Gap_l24 r2 r3 r4 r5 r6 0
mutual
def impl_SameNode (a : GNode) (b : GNode) : Option (Bool) :=
 impl_sameAlone a b >>= fun r =>
 if r then
  slices_EqualFunc_Node_SameNode a.Kids b.Kids >>= fun r1 =>
  some r1
 else
  some false
 partial_fixpoint
def slices_EqualFunc_Node_SameNode (s1 : List GNode) (s2 : List GNode) : Option (Bool) :=
 if (neI (lenL s1) (lenL s2)) then
  some false
 else
  slices_EqualFunc_Node_SameNode_l14 s2 s1 0
 partial_fixpoint
def slices_EqualFunc_Node_SameNode_l14 (s2 : List GNode) (s1 : List GNode) (x2 : Int) : Option (Bool) :=
 if (ltI x2 (lenL s1)) then
  getI s1 x2 >>= fun x3 =>
  getI s2 x2 >>= fun x4 =>
  impl_SameNode x3 x4 >>= fun r1 =>
  if r1 then
   slices_EqualFunc_Node_SameNode_l14 s2 s1 (addI x2 1)
  else
   some false
 else
  some true
 partial_fixpoint
end
def laws_FnGaps (code : List Int) : Option (Bool) :=
 laws_big code >>= fun r =>
 if r then
  some true
 else
  spec_DrawGap code >>= fun r1 =>
  impl_Gap r1.1 r1.2 >>= fun r2 =>
  impl_Nodes r1.1 >>= fun r3 =>
  impl_Nodes r1.2 >>= fun r4 =>
  spec_Gap r1.1 r1.2 >>= fun r5 =>
  if (neI r2 r5) then
   some false
  else
   spec_Nodes r1.1 >>= fun r6 =>
   if (neI r3 r6) then
    some false
   else
    spec_Nodes r1.2 >>= fun r7 =>
    if (neI r4 r7) then
     some false
    else
     impl_Alone r1.1 >>= fun r8 =>
     if (neI (lenL r8.Kids) 0) then
      some false
     else
      if (gtI r3 12) then
       some (eqI r2 (-1))
      else
       if (gtI r4 12) then
        some (eqI r2 (-1))
       else
        impl_Gap r1.2 r1.1 >>= fun r9 =>
        if (eqI r2 r9) then
         impl_SameNode r1.1 r1.2 >>= fun r10 =>
         if (eqB (eqI r2 0) r10) then
          if (geI r2 (subI r3 r4)) then
           if (geI r2 (subI r4 r3)) then
            if (leI r2 (subI (addI r3 r4) 1)) then
             impl_Gap r1.1 r1.1 >>= fun r11 =>
             some (eqI r11 0)
            else
             some false
           else
            some false
          else
           some false
         else
          some false
        else
         some false
end TT
