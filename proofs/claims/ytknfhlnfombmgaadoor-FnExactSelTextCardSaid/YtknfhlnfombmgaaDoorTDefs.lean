import Derived.Test.YtknfhlnfombmgaaDoorTTypes
set_option linter.unusedVariables false
set_option linter.unusedSimpArgs false
set_option linter.defProp false
set_option maxRecDepth 100000
namespace TT
open Go
def laws_szPred (a : GPred) (left : Int) : Option (Int) :=
  if (ltI (subI left (lenS a.Pre)) 0) then
    some (-1)
  else
    if (ltI (subI (subI left (lenS a.Pre)) (lenS a.Local)) 0) then
      some (-1)
    else
      if (ltI (subI (subI (subI left (lenS a.Pre)) (lenS a.Local)) (lenS a.Val)) 0) then
        some (-1)
      else
        some (subI (subI (subI left (lenS a.Pre)) (lenS a.Local)) (lenS a.Val))
def laws_szPredS_l16 (a : List GPred) (left1 : Int) (i : Int) : Option (Int) :=
  if (ltI i (lenL a)) then
    getI a i >>= fun x1 =>
    laws_szPred x1 left1 >>= fun r1 =>
    if (ltI r1 0) then
      some (-1)
    else
      laws_szPredS_l16 a r1 (addI i 1)
  else
    some left1
  partial_fixpoint
def laws_szPredS (a : List GPred) (left : Int) : Option (Int) :=
  if (ltI (subI left (lenL a)) 0) then
    some (-1)
  else
    laws_szPredS_l16 a (subI left (lenL a)) 0
def laws_szStep (a : GStp) (left : Int) : Option (Int) :=
  if (ltI (subI left (lenS a.Pre)) 0) then
    some (-1)
  else
    if (ltI (subI (subI left (lenS a.Pre)) (lenS a.Local)) 0) then
      some (-1)
    else
      laws_szPredS a.Preds (subI (subI left (lenS a.Pre)) (lenS a.Local)) >>= fun r =>
      if (ltI r 0) then
        some (-1)
      else
        some r
def laws_szStepS_l16 (a : List GStp) (left1 : Int) (i : Int) : Option (Int) :=
  if (ltI i (lenL a)) then
    getI a i >>= fun x1 =>
    laws_szStep x1 left1 >>= fun r1 =>
    if (ltI r1 0) then
      some (-1)
    else
      laws_szStepS_l16 a r1 (addI i 1)
  else
    some left1
  partial_fixpoint
def laws_szStepS (a : List GStp) (left : Int) : Option (Int) :=
  if (ltI (subI left (lenL a)) 0) then
    some (-1)
  else
    laws_szStepS_l16 a (subI left (lenL a)) 0
def laws_szSel (a : GSel) (left : Int) : Option (Int) :=
  if (ltI (subI left (lenS a.Id)) 0) then
    some (-1)
  else
    laws_szStepS a.Steps (subI left (lenS a.Id)) >>= fun r =>
    if (ltI r 0) then
      some (-1)
    else
      some r
def laws_toPred (a : GPred) : Option (GPred) :=
  some a
def laws_toPredS_l8 (a : List GPred) (out : List (GPred)) (i : Int) : Option (List GPred) :=
  if (ltI i (lenL a)) then
    getI a i >>= fun x2 =>
    laws_toPred x2 >>= fun r1 =>
    getI out i >>= fun x3 =>
    laws_toPredS_l8 a (out.set (Int.toNat i) r1) (addI i 1)
  else
    some out
  partial_fixpoint
def laws_toPredS (a : List GPred) : Option (List GPred) :=
  mkN (lenL a) 64 >>= fun m =>
  laws_toPredS_l8 a (List.replicate m (GPred.mk 0 0 ⟨#[]⟩ ⟨#[]⟩ ⟨#[]⟩)) 0
def laws_toStep (a : GStp) : Option (GStp) :=
  laws_toPredS a.Preds >>= fun r =>
  some (GStp.mk a.Deep a.Kind a.Pre a.Local r)
def laws_toStepS_l8 (a : List GStp) (out : List (GStp)) (i : Int) : Option (List GStp) :=
  if (ltI i (lenL a)) then
    getI a i >>= fun x2 =>
    laws_toStep x2 >>= fun r1 =>
    getI out i >>= fun x3 =>
    laws_toStepS_l8 a (out.set (Int.toNat i) r1) (addI i 1)
  else
    some out
  partial_fixpoint
def laws_toStepS (a : List GStp) : Option (List GStp) :=
  mkN (lenL a) 72 >>= fun m =>
  laws_toStepS_l8 a (List.replicate m (GStp.mk false 0 ⟨#[]⟩ ⟨#[]⟩ [])) 0
def laws_toSel (a : GSel) : Option (GSel) :=
  laws_toStepS a.Steps >>= fun r =>
  some (GSel.mk a.Id r)
def spec_l1In (a0 : Int) (least : Int) (most : Int) : Option (Bool) :=
  if (geI a0 least) then
    some (leI a0 most)
  else
    some false
def spec_SignAt_l55 (s : ByteArray) (at1 : Int) (n : Int) (least : Int) (v1 : Int) (i : Int) : Option (Int × Int × Bool) :=
  if (leI i n) then
    atS s (addI at1 i) >>= fun x4 =>
    if (ltI (wr .i64 x4) 128) then
      some (0, 0, false)
    else
      if (gtI (wr .i64 x4) 191) then
        some (0, 0, false)
      else
        spec_SignAt_l55 s at1 n least (subI (addI (mulI v1 64) (wr .i64 x4)) 128) (addI i 1)
  else
    if (ltI v1 least) then
      some (0, 0, false)
    else
      if (gtI v1 1114111) then
        some (0, 0, false)
      else
        spec_l1In v1 55296 57343 >>= fun r1 =>
        if r1 then
          some (0, 0, false)
        else
          some (v1, (addI (addI at1 1) n), true)
  partial_fixpoint
def spec_SignAt_j26 (s : ByteArray) (at1 : Int) (n : Int) (least : Int) (v : Int) : Option (Int × Int × Bool) :=
  if (gtI at1 (subI (subI (lenS s) 1) n)) then
    some (0, 0, false)
  else
    spec_SignAt_l55 s at1 n least v 1
def spec_SignAt_j32 (s : ByteArray) (at1 : Int) (x : Int) (x2 : Bool) : Option (Int × Int × Bool) :=
  if x2 then
    spec_SignAt_j26 s at1 2 2048 (andK .i64 (wr .i64 x) 15)
  else
    if (geI (wr .i64 x) 240) then
      if (ltI (wr .i64 x) 248) then
        spec_SignAt_j26 s at1 3 65536 (andK .i64 (wr .i64 x) 7)
      else
        some (0, 0, false)
    else
      some (0, 0, false)
def spec_SignAt_j28 (s : ByteArray) (at1 : Int) (x : Int) (x1 : Bool) : Option (Int × Int × Bool) :=
  if x1 then
    spec_SignAt_j26 s at1 1 128 (andK .i64 (wr .i64 x) 31)
  else
    if (geI (wr .i64 x) 224) then
      spec_SignAt_j32 s at1 x (ltI (wr .i64 x) 240)
    else
      spec_SignAt_j32 s at1 x false
def spec_SignAt (s : ByteArray) (at1 : Int) : Option (Int × Int × Bool) :=
  if (ltI at1 0) then
    some (0, 0, false)
  else
    if (geI at1 (lenS s)) then
      some (0, 0, false)
    else
      atS s at1 >>= fun x =>
      if (ltI (wr .i64 x) 128) then
        some ((wr .i64 x), (addI at1 1), true)
      else
        if (geI (wr .i64 x) 192) then
          spec_SignAt_j28 s at1 x (ltI (wr .i64 x) 224)
        else
          spec_SignAt_j28 s at1 x false
def spec_l1Ranges_l6 (n : Int) (l : List Int) (i : Int) : Option (Bool) :=
  if (ltI (addI i 1) (lenL l)) then
    getI l i >>= fun x2 =>
    getI l (addI i 1) >>= fun x3 =>
    spec_l1In n x2 x3 >>= fun r1 =>
    if r1 then
      some true
    else
      spec_l1Ranges_l6 n l (addI i 2)
  else
    some false
  partial_fixpoint
def spec_l1Ranges (n : Int) (l : List Int) : Option (Bool) :=
  spec_l1Ranges_l6 n l 0
def spec_IsStart (n : Int) : Option (Bool) :=
  spec_l1Ranges n [65, 90, 95, 95, 97, 122, 192, 214, 216, 246, 248, 767, 880, 893, 895, 8191, 8204, 8205, 8304, 8591, 11264, 12271, 12289, 55295, 63744, 64975, 65008, 65533, 65536, 983039] >>= fun r =>
  some r
def spec_IsPart (n : Int) : Option (Bool) :=
  spec_IsStart n >>= fun r =>
  if r then
    some true
  else
    spec_l1Ranges n [45, 46, 48, 57, 183, 183, 768, 879, 8255, 8256] >>= fun r1 =>
    some r1
def spec_PlainOk_l14 (s : ByteArray) (at1 : Int) : Option (Bool) :=
  if (ltI at1 (lenS s)) then
    spec_SignAt s at1 >>= fun r5 =>
    if r5.2.2 then
      if (eqI at1 0) then
        spec_IsStart r5.1 >>= fun r6 =>
        if r6 then
          spec_IsPart r5.1 >>= fun r7 =>
          if r7 then
            spec_PlainOk_l14 s r5.2.1
          else
            some false
        else
          some false
      else
        spec_IsPart r5.1 >>= fun r8 =>
        if r8 then
          spec_PlainOk_l14 s r5.2.1
        else
          some false
    else
      some false
  else
    some true
  partial_fixpoint
def spec_PlainOk (s : ByteArray) : Option (Bool) :=
  spec_l1In (lenS s) 1 16 >>= fun r =>
  if r then
    spec_PlainOk_l14 s 0
  else
    some false
def spec_SplitName_l14 (s : ByteArray) (i : Int) : Option (ByteArray × ByteArray × Bool) :=
  if (ltI i (lenS s)) then
    atS s i >>= fun x5 =>
    if (eqI x5 58) then
      subS s 0 i >>= fun x6 =>
      spec_PlainOk x6 >>= fun r3 =>
      if r3 then
        subS s (addI i 1) (lenS s) >>= fun x7 =>
        spec_PlainOk x7 >>= fun r4 =>
        if r4 then
          subS s 0 i >>= fun x8 =>
          subS s (addI i 1) (lenS s) >>= fun x9 =>
          some (x8, x9, true)
        else
          some (⟨#[]⟩, ⟨#[]⟩, false)
      else
        some (⟨#[]⟩, ⟨#[]⟩, false)
    else
      spec_SplitName_l14 s (addI i 1)
  else
    some (⟨#[]⟩, ⟨#[]⟩, false)
  partial_fixpoint
def spec_SplitName (s : ByteArray) : Option (ByteArray × ByteArray × Bool) :=
  spec_PlainOk s >>= fun r =>
  if r then
    some (⟨#[]⟩, s, true)
  else
    spec_SplitName_l14 s 0
def spec_JoinName_j4 (pre : ByteArray) (local1 : ByteArray) (s : ByteArray) : Option (ByteArray) :=
  spec_SplitName s >>= fun r =>
  if r.2.2 then
    if (neS r.1 pre) then
      some (⟨#[]⟩)
    else
      if (neS r.2.1 local1) then
        some (⟨#[]⟩)
      else
        some s
  else
    some (⟨#[]⟩)
def spec_JoinName (pre : ByteArray) (local1 : ByteArray) : Option (ByteArray) :=
  if (neS pre (⟨#[]⟩)) then
    catS pre (⟨#[58]⟩) >>= fun x =>
    catS x local1 >>= fun x1 =>
    spec_JoinName_j4 pre local1 x1
  else
    spec_JoinName_j4 pre local1 local1
def spec_IsSign (n : Int) : Option (Bool) :=
  if (eqI n 9) then
    some true
  else
    if (eqI n 10) then
      some true
    else
      if (eqI n 13) then
        some true
      else
        spec_l1In n 32 55295 >>= fun r =>
        if r then
          some true
        else
          spec_l1In n 57344 65533 >>= fun r1 =>
          if r1 then
            some true
          else
            spec_l1In n 65536 1114111 >>= fun r2 =>
            some r2
def spec_l1Signs_l6 (s : ByteArray) (at1 : Int) : Option (Bool) :=
  if (ltI at1 (lenS s)) then
    spec_SignAt s at1 >>= fun r2 =>
    if r2.2.2 then
      spec_IsSign r2.1 >>= fun r3 =>
      if r3 then
        spec_l1Signs_l6 s r2.2.1
      else
        some false
    else
      some false
  else
    some (leI (lenS s) 1500)
  partial_fixpoint
def spec_l1Signs (s : ByteArray) : Option (Bool) :=
  spec_l1Signs_l6 s 0
def spec_TextOk (s : ByteArray) : Option (Bool) :=
  if (leI (lenS s) 600) then
    spec_l1Signs s >>= fun r =>
    some r
  else
    some false
def spec_l5Has_l6 (s : ByteArray) (t : ByteArray) (i : Int) : Option (Bool) :=
  if (leI (addI i (lenS t)) (lenS s)) then
    subS s i (addI i (lenS t)) >>= fun x1 =>
    if (eqS x1 t) then
      some true
    else
      spec_l5Has_l6 s t (addI i 1)
  else
    some false
  partial_fixpoint
def spec_l5Has (s : ByteArray) (t : ByteArray) : Option (Bool) :=
  spec_l5Has_l6 s t 0
def spec_l11Val (s : ByteArray) : Option (Bool) :=
  spec_TextOk s >>= fun r =>
  if r then
    spec_l5Has s (⟨#[39]⟩) >>= fun r1 =>
    if r1 then
      spec_l5Has s (⟨#[34]⟩) >>= fun r2 =>
      some (!r2)
    else
      some true
  else
    some false
def spec_l11PredOk_j12 (kind : Int) (p : GPred) (x : Bool) : Option (Bool) :=
  if x then
    spec_l1In kind 1 2 >>= fun r1 =>
    if r1 then
      if (eqI p.N 0) then
        spec_JoinName p.Pre p.Local >>= fun r2 =>
        if (neS r2 (⟨#[]⟩)) then
          spec_l11Val p.Val >>= fun r3 =>
          some r3
        else
          some false
      else
        some false
    else
      some false
  else
    if (eqI p.Kind 4) then
      spec_l1In kind 1 2 >>= fun r4 =>
      if r4 then
        if (eqI p.N 0) then
          if (eqS p.Pre (⟨#[]⟩)) then
            if (eqS p.Local (⟨#[]⟩)) then
              spec_l11Val p.Val >>= fun r5 =>
              some r5
            else
              some false
          else
            some false
        else
          some false
      else
        some false
    else
      some false
def spec_l11PredOk (p : GPred) (kind : Int) : Option (Bool) :=
  if (eqI p.Kind 1) then
    spec_l1In p.N 1 999 >>= fun r =>
    if r then
      if (eqS p.Pre (⟨#[]⟩)) then
        if (eqS p.Local (⟨#[]⟩)) then
          some (eqS p.Val (⟨#[]⟩))
        else
          some false
      else
        some false
    else
      some false
  else
    if (eqI p.Kind 2) then
      spec_l11PredOk_j12 kind p true
    else
      spec_l11PredOk_j12 kind p (eqI p.Kind 3)
def spec_l11StepOk_j45 (a0 : GStp) (x5 : Bool) (xDeep : Bool) : Option (Bool) :=
  if x5 then
    if (eqS a0.Pre (⟨#[]⟩)) then
      some (eqS a0.Local (⟨#[]⟩))
    else
      some false
  else
    if (eqI a0.Kind 5) then
      if (eqS a0.Pre (⟨#[]⟩)) then
        if (eqS a0.Local (⟨#[]⟩)) then
          some true
        else
          spec_PlainOk a0.Local >>= fun r6 =>
          some r6
      else
        some false
    else
      if (eqI a0.Kind 7) then
        if (eqS a0.Pre (⟨#[]⟩)) then
          spec_PlainOk a0.Local >>= fun r7 =>
          some r7
        else
          some false
      else
        some false
def spec_l11StepOk_j35 (a0 : GStp) (x4 : Bool) (xDeep : Bool) : Option (Bool) :=
  if x4 then
    spec_JoinName a0.Pre a0.Local >>= fun r5 =>
    some (neS r5 (⟨#[]⟩))
  else
    if (eqI a0.Kind 2) then
      spec_l11StepOk_j45 a0 true xDeep
    else
      if (eqI a0.Kind 3) then
        spec_l11StepOk_j45 a0 true xDeep
      else
        spec_l11StepOk_j45 a0 (eqI a0.Kind 4) xDeep
def spec_l11StepOk_l14 (i : Int) (xDeep : Bool) (a0 : GStp) : Option (Bool) :=
  if (ltI i (lenL a0.Preds)) then
    getI a0.Preds i >>= fun x3 =>
    spec_l11PredOk x3 a0.Kind >>= fun r4 =>
    if r4 then
      spec_l11StepOk_l14 (addI i 1) xDeep a0
    else
      some false
  else
    if (eqI a0.Kind 1) then
      spec_l11StepOk_j35 a0 true xDeep
    else
      spec_l11StepOk_j35 a0 (eqI a0.Kind 6) xDeep
  partial_fixpoint
def spec_l11StepOk_j2 (xDeep : Bool) (a0 : GStp) : Option (Bool) :=
  spec_l11StepOk_l14 0 xDeep a0
def spec_l11StepOk (a0 : GStp) (last : Bool) : Option (Bool) :=
  if (gtI (lenL a0.Preds) 3) then
    some false
  else
    if (geI a0.Kind 6) then
      if last then
        if a0.Deep then
          some false
        else
          if (gtI (lenL a0.Preds) 0) then
            some false
          else
            spec_l11StepOk_j2 false a0
      else
        some false
    else
      spec_l11StepOk_j2 a0.Deep a0
def spec_SelOk_l6 (i : Int) (s : GSel) : Option (Bool) :=
  if (ltI i (lenL s.Steps)) then
    getI s.Steps i >>= fun x1 =>
    spec_l11StepOk x1 (eqI i (subI (lenL s.Steps) 1)) >>= fun r2 =>
    if r2 then
      spec_SelOk_l6 (addI i 1) s
    else
      some false
  else
    spec_l11Val s.Id >>= fun r3 =>
    if r3 then
      if (leI (lenL s.Steps) 8) then
        if (neS s.Id (⟨#[]⟩)) then
          some true
        else
          some (gtI (lenL s.Steps) 0)
      else
        some false
    else
      some false
  partial_fixpoint
def spec_SelOk (s : GSel) : Option (Bool) :=
  spec_SelOk_l6 0 s
def spec_l11Quote (s : ByteArray) : Option (ByteArray) :=
  spec_l5Has s (⟨#[39]⟩) >>= fun r =>
  if r then
    catS (⟨#[34]⟩) s >>= fun x =>
    catS x (⟨#[34]⟩) >>= fun x1 =>
    some x1
  else
    catS (⟨#[39]⟩) s >>= fun x2 =>
    catS x2 (⟨#[39]⟩) >>= fun x3 =>
    some x3
def spec_l11Num_l8 (s : ByteArray) (x3 : Int) : Option (ByteArray) :=
  if (gtI x3 0) then
    remI x3 10 >>= fun x4 =>
    catS (⟨([UInt8.ofNat ((wr .u8 (addI 48 x4))).toNat]).toArray⟩) s >>= fun x5 =>
    quoI x3 10 >>= fun x6 =>
    spec_l11Num_l8 x5 x6
  else
    some s
  partial_fixpoint
def spec_l11Num (n : Int) : Option (ByteArray) :=
  spec_l11Num_l8 (⟨#[]⟩) n
def spec_l11Pred (p : GPred) : Option (ByteArray) :=
  if (eqI p.Kind 1) then
    spec_l11Num p.N >>= fun r =>
    catS (⟨#[91]⟩) r >>= fun x =>
    catS x (⟨#[93]⟩) >>= fun x1 =>
    some x1
  else
    if (eqI p.Kind 2) then
      spec_JoinName p.Pre p.Local >>= fun r1 =>
      catS (⟨#[91, 64]⟩) r1 >>= fun x2 =>
      catS x2 (⟨#[61]⟩) >>= fun x3 =>
      spec_l11Quote p.Val >>= fun r2 =>
      catS x3 r2 >>= fun x4 =>
      catS x4 (⟨#[93]⟩) >>= fun x5 =>
      some x5
    else
      if (eqI p.Kind 3) then
        spec_JoinName p.Pre p.Local >>= fun r3 =>
        catS (⟨#[91]⟩) r3 >>= fun x6 =>
        catS x6 (⟨#[61]⟩) >>= fun x7 =>
        spec_l11Quote p.Val >>= fun r4 =>
        catS x7 r4 >>= fun x8 =>
        catS x8 (⟨#[93]⟩) >>= fun x9 =>
        some x9
      else
        spec_l11Quote p.Val >>= fun r5 =>
        catS (⟨#[91, 46, 61]⟩) r5 >>= fun x10 =>
        catS x10 (⟨#[93]⟩) >>= fun x11 =>
        some x11
def spec_l11Step_l43 (s1 : ByteArray) (i : Int) (a0 : GStp) : Option (ByteArray) :=
  if (ltI i (lenL a0.Preds)) then
    getI a0.Preds i >>= fun x6 =>
    spec_l11Pred x6 >>= fun r3 =>
    catS s1 r3 >>= fun x7 =>
    spec_l11Step_l43 x7 (addI i 1) a0
  else
    some s1
  partial_fixpoint
def spec_l11Step_j4 (s : ByteArray) (a0 : GStp) : Option (ByteArray) :=
  spec_l11Step_l43 s 0 a0
def spec_l11Step (a0 : GStp) : Option (ByteArray) :=
  if (eqI a0.Kind 1) then
    spec_JoinName a0.Pre a0.Local >>= fun r =>
    spec_l11Step_j4 r a0
  else
    if (eqI a0.Kind 2) then
      spec_l11Step_j4 (⟨#[42]⟩) a0
    else
      if (eqI a0.Kind 3) then
        spec_l11Step_j4 (⟨#[116, 101, 120, 116, 40, 41]⟩) a0
      else
        if (eqI a0.Kind 4) then
          spec_l11Step_j4 (⟨#[99, 111, 109, 109, 101, 110, 116, 40, 41]⟩) a0
        else
          if (eqI a0.Kind 5) then
            if (neS a0.Local (⟨#[]⟩)) then
              catS (⟨#[112, 114, 111, 99, 101, 115, 115, 105, 110, 103, 45, 105, 110, 115, 116, 114, 117, 99, 116, 105, 111, 110, 40, 39]⟩) a0.Local >>= fun x =>
              catS x (⟨#[39, 41]⟩) >>= fun x1 =>
              spec_l11Step_j4 x1 a0
            else
              spec_l11Step_j4 (⟨#[112, 114, 111, 99, 101, 115, 115, 105, 110, 103, 45, 105, 110, 115, 116, 114, 117, 99, 116, 105, 111, 110, 40, 41]⟩) a0
          else
            if (eqI a0.Kind 6) then
              spec_JoinName a0.Pre a0.Local >>= fun r1 =>
              catS (⟨#[64]⟩) r1 >>= fun x2 =>
              spec_l11Step_j4 x2 a0
            else
              catS (⟨#[110, 97, 109, 101, 115, 112, 97, 99, 101, 58, 58]⟩) a0.Local >>= fun x3 =>
              spec_l11Step_j4 x3 a0
def spec_SelText_l22 (out1 : ByteArray) (i : Int) (s : GSel) : Option (ByteArray) :=
  if (ltI i (lenL s.Steps)) then
    getI s.Steps i >>= fun x10 =>
    if x10.Deep then
      catS out1 (⟨#[47, 47]⟩) >>= fun x11 =>
      spec_l11Step (GStp.mk true x10.Kind x10.Pre x10.Local x10.Preds) >>= fun r6 =>
      catS x11 r6 >>= fun x12 =>
      spec_SelText_l22 x12 (addI i 1) s
    else
      if (gtI i 0) then
        catS out1 (⟨#[47]⟩) >>= fun x13 =>
        spec_l11Step (GStp.mk false x10.Kind x10.Pre x10.Local x10.Preds) >>= fun r7 =>
        catS x13 r7 >>= fun x14 =>
        spec_SelText_l22 x14 (addI i 1) s
      else
        if (neS s.Id (⟨#[]⟩)) then
          catS out1 (⟨#[47]⟩) >>= fun x15 =>
          spec_l11Step (GStp.mk false x10.Kind x10.Pre x10.Local x10.Preds) >>= fun r8 =>
          catS x15 r8 >>= fun x16 =>
          spec_SelText_l22 x16 (addI i 1) s
        else
          spec_l11Step (GStp.mk false x10.Kind x10.Pre x10.Local x10.Preds) >>= fun r9 =>
          catS out1 r9 >>= fun x17 =>
          spec_SelText_l22 x17 (addI i 1) s
  else
    if (gtI (lenS out1) 200) then
      some (⟨#[]⟩)
    else
      some out1
  partial_fixpoint
def spec_SelText_j12 (out : ByteArray) (s : GSel) : Option (ByteArray) :=
  spec_SelText_l22 out 0 s
def spec_SelText (s : GSel) : Option (ByteArray) :=
  spec_SelOk s >>= fun r =>
  if r then
    if (neS s.Id (⟨#[]⟩)) then
      spec_l11Quote s.Id >>= fun r1 =>
      catS (⟨#[105, 100, 40]⟩) r1 >>= fun x =>
      catS x (⟨#[41]⟩) >>= fun x1 =>
      spec_SelText_j12 x1 s
    else
      spec_SelText_j12 (⟨#[]⟩) s
  else
    some (⟨#[]⟩)
def impl_in (n : Int) (lo : Int) (hi : Int) : Option (Bool) :=
  if (geI n lo) then
    some (leI n hi)
  else
    some false
def unicode_utf8_DecodeRuneInString (s : ByteArray) : Option (Int × Int) :=
  some (decodeI s)
def impl_SignAt (s : ByteArray) (at1 : Int) : Option (Int × Int × Bool) :=
  impl_in at1 0 (subI (lenS s) 1) >>= fun r =>
  if r then
    subS s at1 (lenS s) >>= fun x =>
    unicode_utf8_DecodeRuneInString x >>= fun r1 =>
    if (eqI r1.1 65533) then
      if (leI r1.2 1) then
        some (0, 0, false)
      else
        some ((wr .i64 r1.1), (addI at1 r1.2), true)
    else
      some ((wr .i64 r1.1), (addI at1 r1.2), true)
  else
    some (0, 0, false)
def impl_inAny_1 (r : GArr2Int) (a1 : Int) : Option (Bool × Int) :=
  impl_in a1 r.xa0 r.xa1 >>= fun r1 =>
  some (r1, a1)
def slices_IndexFunc_A2int_inAny_1_l6 (s : List GArr2Int) (x1 : Int) (f : Int) : Option (Int × Int) :=
  if (ltI x1 (lenL s)) then
    getI s x1 >>= fun x2 =>
    impl_inAny_1 x2 f >>= fun r1 =>
    if r1.1 then
      some (x1, r1.2)
    else
      slices_IndexFunc_A2int_inAny_1_l6 s (addI x1 1) r1.2
  else
    some ((-1), f)
  partial_fixpoint
def slices_IndexFunc_A2int_inAny_1 (s : List GArr2Int) (fc0 : Int) : Option (Int × Int) :=
  slices_IndexFunc_A2int_inAny_1_l6 s 0 fc0
def slices_ContainsFunc_A2int_inAny_1 (s : List GArr2Int) (fc0 : Int) : Option (Bool × Int) :=
  slices_IndexFunc_A2int_inAny_1 s fc0 >>= fun r =>
  some ((geI r.1 0), r.2)
def impl_inAny (n : Int) (ranges : List GArr2Int) : Option (Bool) :=
  slices_ContainsFunc_A2int_inAny_1 ranges n >>= fun r =>
  some r.1
def impl_IsStart (n : Int) : Option (Bool) :=
  impl_inAny n [(GArr2Int.mk 65 90), (GArr2Int.mk 95 95), (GArr2Int.mk 97 122), (GArr2Int.mk 192 214), (GArr2Int.mk 216 246), (GArr2Int.mk 248 767), (GArr2Int.mk 880 893), (GArr2Int.mk 895 8191), (GArr2Int.mk 8204 8205), (GArr2Int.mk 8304 8591), (GArr2Int.mk 11264 12271), (GArr2Int.mk 12289 55295), (GArr2Int.mk 63744 64975), (GArr2Int.mk 65008 65533), (GArr2Int.mk 65536 983039)] >>= fun r =>
  some r
def impl_IsPart (n : Int) : Option (Bool) :=
  impl_IsStart n >>= fun r =>
  if r then
    some true
  else
    impl_inAny n [(GArr2Int.mk 45 46), (GArr2Int.mk 48 57), (GArr2Int.mk 183 183), (GArr2Int.mk 768 879), (GArr2Int.mk 8255 8256)] >>= fun r1 =>
    some r1
def impl_PlainOk_l6 (s : ByteArray) (at1 : Int) : Option (Bool) :=
  if (ltI at1 (lenS s)) then
    impl_SignAt s at1 >>= fun r5 =>
    if r5.2.2 then
      if (eqI at1 0) then
        impl_IsStart r5.1 >>= fun r6 =>
        if r6 then
          impl_IsPart r5.1 >>= fun r7 =>
          if r7 then
            impl_PlainOk_l6 s r5.2.1
          else
            some false
        else
          some false
      else
        impl_IsPart r5.1 >>= fun r8 =>
        if r8 then
          impl_PlainOk_l6 s r5.2.1
        else
          some false
    else
      some false
  else
    impl_in (lenS s) 1 16 >>= fun r9 =>
    some r9
  partial_fixpoint
def impl_PlainOk (s : ByteArray) : Option (Bool) :=
  impl_PlainOk_l6 s 0
def impl_nameOk (pre : ByteArray) (local1 : ByteArray) : Option (Bool) :=
  if (eqS pre (⟨#[]⟩)) then
    impl_PlainOk local1 >>= fun r =>
    some r
  else
    impl_PlainOk pre >>= fun r1 =>
    if r1 then
      impl_PlainOk local1 >>= fun r2 =>
      some r2
    else
      some false
def impl_IsSign (n : Int) : Option (Bool) :=
  impl_inAny n [(GArr2Int.mk 9 10), (GArr2Int.mk 13 13), (GArr2Int.mk 32 55295), (GArr2Int.mk 57344 65533), (GArr2Int.mk 65536 1114111)] >>= fun r =>
  some r
def impl_signsOk_l6 (s : ByteArray) (at1 : Int) : Option (Bool) :=
  if (ltI at1 (lenS s)) then
    impl_SignAt s at1 >>= fun r2 =>
    if r2.2.2 then
      impl_IsSign r2.1 >>= fun r3 =>
      if r3 then
        impl_signsOk_l6 s r2.2.1
      else
        some false
    else
      some false
  else
    some true
  partial_fixpoint
def impl_signsOk (s : ByteArray) : Option (Bool) :=
  impl_signsOk_l6 s 0
def impl_TextOk (s : ByteArray) : Option (Bool) :=
  if (leI (lenS s) 600) then
    impl_signsOk s >>= fun r =>
    some r
  else
    some false
def strings_Contains (s : ByteArray) (t : ByteArray) : Option (Bool) :=
  if t.size = 1 then some (holds1 s t) else none
def impl_valOk (s : ByteArray) : Option (Bool) :=
  impl_TextOk s >>= fun r =>
  if r then
    strings_Contains s (⟨#[39]⟩) >>= fun r1 =>
    if r1 then
      strings_Contains s (⟨#[34]⟩) >>= fun r2 =>
      some (!r2)
    else
      some true
  else
    some false
def impl_predOk_j16 (named : Bool) (element : Bool) (p : GPred) (x : Bool) : Option (Bool) :=
  if x then
    if element then
      if (eqI p.N 0) then
        impl_nameOk p.Pre p.Local >>= fun r1 =>
        if r1 then
          impl_valOk p.Val >>= fun r2 =>
          some r2
        else
          some false
      else
        some false
    else
      some false
  else
    if (eqI p.Kind 4) then
      if element then
        if (eqI p.N 0) then
          if named then
            some false
          else
            impl_valOk p.Val >>= fun r3 =>
            some r3
        else
          some false
      else
        some false
    else
      some false
def impl_predOk_j4 (named : Bool) (element : Bool) (p : GPred) : Option (Bool) :=
  if (eqI p.Kind 1) then
    impl_in p.N 1 999 >>= fun r =>
    if r then
      if named then
        some false
      else
        some (eqS p.Val (⟨#[]⟩))
    else
      some false
  else
    if (eqI p.Kind 2) then
      impl_predOk_j16 named element p true
    else
      impl_predOk_j16 named element p (eqI p.Kind 3)
def impl_predOk_j2 (kind : Int) (named : Bool) (p : GPred) : Option (Bool) :=
  if (eqI kind 1) then
    impl_predOk_j4 named true p
  else
    impl_predOk_j4 named (eqI kind 2) p
def impl_predOk (p : GPred) (kind : Int) : Option (Bool) :=
  if (neS p.Pre (⟨#[]⟩)) then
    impl_predOk_j2 kind true p
  else
    impl_predOk_j2 kind (neS p.Local (⟨#[]⟩)) p
def impl_stepOk_1 (p : GPred) (a1 : GStp) : Option (Bool × GStp) :=
  impl_predOk p a1.Kind >>= fun r =>
  some ((!r), a1)
def slices_IndexFunc_Pred_stepOk_1_l6 (s : List GPred) (x1 : Int) (f : GStp) : Option (Int × GStp) :=
  if (ltI x1 (lenL s)) then
    getI s x1 >>= fun x2 =>
    impl_stepOk_1 x2 f >>= fun r1 =>
    if r1.1 then
      some (x1, r1.2)
    else
      slices_IndexFunc_Pred_stepOk_1_l6 s (addI x1 1) r1.2
  else
    some ((-1), f)
  partial_fixpoint
def slices_IndexFunc_Pred_stepOk_1 (s : List GPred) (fc0 : GStp) : Option (Int × GStp) :=
  slices_IndexFunc_Pred_stepOk_1_l6 s 0 fc0
def slices_ContainsFunc_Pred_stepOk_1 (s : List GPred) (fc0 : GStp) : Option (Bool × GStp) :=
  slices_IndexFunc_Pred_stepOk_1 s fc0 >>= fun r =>
  some ((geI r.1 0), r.2)
def impl_stepOk_j22 (end1 : Bool) (r : Bool × GStp) (x : Bool) (sDeep : Bool) : Option (Bool) :=
  if x then
    if (eqS r.2.Pre (⟨#[]⟩)) then
      some (eqS r.2.Local (⟨#[]⟩))
    else
      some false
  else
    if (eqI r.2.Kind 5) then
      if (eqS r.2.Pre (⟨#[]⟩)) then
        if (eqS r.2.Local (⟨#[]⟩)) then
          some true
        else
          impl_PlainOk r.2.Local >>= fun r2 =>
          some r2
      else
        some false
    else
      if (eqI r.2.Kind 6) then
        if end1 then
          impl_nameOk r.2.Pre r.2.Local >>= fun r3 =>
          some r3
        else
          some false
      else
        if (eqI r.2.Kind 7) then
          if end1 then
            if (eqS r.2.Pre (⟨#[]⟩)) then
              impl_PlainOk r.2.Local >>= fun r4 =>
              some r4
            else
              some false
          else
            some false
        else
          some false
def impl_stepOk_j10 (end1 : Bool) (sDeep : Bool) (r : Bool × GStp) : Option (Bool) :=
  if (eqI r.2.Kind 1) then
    impl_nameOk r.2.Pre r.2.Local >>= fun r1 =>
    some r1
  else
    if (eqI r.2.Kind 2) then
      impl_stepOk_j22 end1 r true sDeep
    else
      if (eqI r.2.Kind 3) then
        impl_stepOk_j22 end1 r true sDeep
      else
        impl_stepOk_j22 end1 r (eqI r.2.Kind 4) sDeep
def impl_stepOk (s : GStp) (last : Bool) : Option (Bool) :=
  if (gtI (lenL s.Preds) 3) then
    some false
  else
    slices_ContainsFunc_Pred_stepOk_1 s.Preds s >>= fun r =>
    if r.1 then
      some false
    else
      if last then
        if r.2.Deep then
          impl_stepOk_j10 false true r
        else
          impl_stepOk_j10 (eqI (lenL r.2.Preds) 0) false r
      else
        impl_stepOk_j10 false r.2.Deep r
def impl_SelOk_l8 (s : GSel) (x1 : Int) : Option (Bool) :=
  if (ltI x1 (lenL s.Steps)) then
    getI s.Steps x1 >>= fun x2 =>
    impl_stepOk x2 (eqI x1 (subI (lenL s.Steps) 1)) >>= fun r2 =>
    if r2 then
      impl_SelOk_l8 s (addI x1 1)
    else
      some false
  else
    impl_valOk s.Id >>= fun r3 =>
    if r3 then
      if (leI (lenL s.Steps) 8) then
        if (gtI (lenL s.Steps) 0) then
          some true
        else
          some (neS s.Id (⟨#[]⟩))
      else
        some false
    else
      some false
  partial_fixpoint
def impl_SelOk (s : GSel) : Option (Bool) :=
  impl_SelOk_l8 s 0
def impl_quotedVal (s : ByteArray) : Option (ByteArray) :=
  strings_Contains s (⟨#[39]⟩) >>= fun r =>
  if r then
    catS (⟨#[34]⟩) s >>= fun x =>
    catS x (⟨#[34]⟩) >>= fun x1 =>
    some x1
  else
    catS (⟨#[39]⟩) s >>= fun x2 =>
    catS x2 (⟨#[39]⟩) >>= fun x3 =>
    some x3
def strings_Cut (s : ByteArray) (t : ByteArray) : Option (ByteArray × ByteArray × Bool) :=
  if s.size < 4294967281 then some (cutB s t) else none
def impl_SplitName (s : ByteArray) : Option (ByteArray × ByteArray × Bool) :=
  impl_PlainOk s >>= fun r =>
  if r then
    some (⟨#[]⟩, s, true)
  else
    strings_Cut s (⟨#[58]⟩) >>= fun r1 =>
    if r1.2.2 then
      impl_PlainOk r1.1 >>= fun r2 =>
      if r2 then
        impl_PlainOk r1.2.1 >>= fun r3 =>
        if r3 then
          some (r1.1, r1.2.1, true)
        else
          some (⟨#[]⟩, ⟨#[]⟩, false)
      else
        some (⟨#[]⟩, ⟨#[]⟩, false)
    else
      some (⟨#[]⟩, ⟨#[]⟩, false)
def impl_JoinName_j4 (pre : ByteArray) (local1 : ByteArray) (s : ByteArray) : Option (ByteArray) :=
  impl_SplitName s >>= fun r =>
  if r.2.2 then
    if (neS r.1 pre) then
      some (⟨#[]⟩)
    else
      if (neS r.2.1 local1) then
        some (⟨#[]⟩)
      else
        some s
  else
    some (⟨#[]⟩)
def impl_JoinName (pre : ByteArray) (local1 : ByteArray) : Option (ByteArray) :=
  if (neS pre (⟨#[]⟩)) then
    catS pre (⟨#[58]⟩) >>= fun x =>
    catS x local1 >>= fun x1 =>
    impl_JoinName_j4 pre local1 x1
  else
    impl_JoinName_j4 pre local1 local1
def impl_stepText (s : GStp) : Option (ByteArray) :=
  if (eqI s.Kind 2) then
    some (⟨#[42]⟩)
  else
    if (eqI s.Kind 3) then
      some (⟨#[116, 101, 120, 116, 40, 41]⟩)
    else
      if (eqI s.Kind 4) then
        some (⟨#[99, 111, 109, 109, 101, 110, 116, 40, 41]⟩)
      else
        if (eqI s.Kind 5) then
          if (eqS s.Local (⟨#[]⟩)) then
            some (⟨#[112, 114, 111, 99, 101, 115, 115, 105, 110, 103, 45, 105, 110, 115, 116, 114, 117, 99, 116, 105, 111, 110, 40, 41]⟩)
          else
            catS (⟨#[112, 114, 111, 99, 101, 115, 115, 105, 110, 103, 45, 105, 110, 115, 116, 114, 117, 99, 116, 105, 111, 110, 40, 39]⟩) s.Local >>= fun x =>
            catS x (⟨#[39, 41]⟩) >>= fun x1 =>
            some x1
        else
          if (eqI s.Kind 6) then
            impl_JoinName s.Pre s.Local >>= fun r =>
            catS (⟨#[64]⟩) r >>= fun x2 =>
            some x2
          else
            if (eqI s.Kind 7) then
              catS (⟨#[110, 97, 109, 101, 115, 112, 97, 99, 101, 58, 58]⟩) s.Local >>= fun x3 =>
              some x3
            else
              impl_JoinName s.Pre s.Local >>= fun r1 =>
              some r1
def strconv_Itoa (s : Int) : Option (ByteArray) :=
  if -9223372036854775808 ≤ s ∧ s ≤ 9223372036854775807 then some (itoaB s) else none
def impl_predText (p : GPred) : Option (ByteArray) :=
  if (eqI p.Kind 1) then
    strconv_Itoa p.N >>= fun r =>
    catS (⟨#[91]⟩) r >>= fun x =>
    catS x (⟨#[93]⟩) >>= fun x1 =>
    some x1
  else
    if (eqI p.Kind 2) then
      impl_JoinName p.Pre p.Local >>= fun r1 =>
      catS (⟨#[91, 64]⟩) r1 >>= fun x2 =>
      catS x2 (⟨#[61]⟩) >>= fun x3 =>
      impl_quotedVal p.Val >>= fun r2 =>
      catS x3 r2 >>= fun x4 =>
      catS x4 (⟨#[93]⟩) >>= fun x5 =>
      some x5
    else
      if (eqI p.Kind 3) then
        impl_JoinName p.Pre p.Local >>= fun r3 =>
        catS (⟨#[91]⟩) r3 >>= fun x6 =>
        catS x6 (⟨#[61]⟩) >>= fun x7 =>
        impl_quotedVal p.Val >>= fun r4 =>
        catS x7 r4 >>= fun x8 =>
        catS x8 (⟨#[93]⟩) >>= fun x9 =>
        some x9
      else
        impl_quotedVal p.Val >>= fun r5 =>
        catS (⟨#[91, 46, 61]⟩) r5 >>= fun x10 =>
        catS x10 (⟨#[93]⟩) >>= fun x11 =>
        some x11
mutual
def impl_SelText_j33 (out4 : ByteArray) (s : GSel) (x12 : Int) (xDeep1 : Bool) (x13 : GStp) : Option (ByteArray) :=
  impl_stepText (GStp.mk xDeep1 x13.Kind x13.Pre x13.Local x13.Preds) >>= fun r5 =>
  catS out4 r5 >>= fun x17 =>
  impl_SelText_l49 x17 s x12 x13 0
  partial_fixpoint
def impl_SelText_l49 (out5 : ByteArray) (s : GSel) (x12 : Int) (x13 : GStp) (x20 : Int) : Option (ByteArray) :=
  if (ltI x20 (lenL x13.Preds)) then
    getI x13.Preds x20 >>= fun x21 =>
    impl_predText x21 >>= fun r7 =>
    catS out5 r7 >>= fun x22 =>
    impl_SelText_l49 x22 s x12 x13 (addI x20 1)
  else
    impl_SelText_l22 out5 s (addI x12 1)
  partial_fixpoint
def impl_SelText_l22 (out3 : ByteArray) (s : GSel) (x12 : Int) : Option (ByteArray) :=
  if (ltI x12 (lenL s.Steps)) then
    getI s.Steps x12 >>= fun x13 =>
    if x13.Deep then
      catS out3 (⟨#[47, 47]⟩) >>= fun x14 =>
      impl_SelText_j33 x14 s x12 true x13
    else
      if (gtI x12 0) then
        catS out3 (⟨#[47]⟩) >>= fun x15 =>
        impl_SelText_j33 x15 s x12 false x13
      else
        if (neS s.Id (⟨#[]⟩)) then
          catS out3 (⟨#[47]⟩) >>= fun x16 =>
          impl_SelText_j33 x16 s x12 false x13
        else
          impl_SelText_j33 out3 s x12 false x13
  else
    if (gtI (lenS out3) 200) then
      some (⟨#[]⟩)
    else
      some out3
  partial_fixpoint
end
def impl_SelText_j12 (out : ByteArray) (s : GSel) : Option (ByteArray) :=
  impl_SelText_l22 out s 0
def impl_SelText (s : GSel) : Option (ByteArray) :=
  impl_SelOk s >>= fun r =>
  if r then
    if (neS s.Id (⟨#[]⟩)) then
      impl_quotedVal s.Id >>= fun r1 =>
      catS (⟨#[105, 100, 40]⟩) r1 >>= fun x =>
      catS x (⟨#[41]⟩) >>= fun x1 =>
      impl_SelText_j12 x1 s
    else
      impl_SelText_j12 (⟨#[]⟩) s
  else
    some (⟨#[]⟩)
def laws_eqPred (a : GPred) (b : GPred) : Option (Bool) :=
  if (neI a.Kind b.Kind) then
    some false
  else
    if (neI a.N b.N) then
      some false
    else
      if (neS a.Pre b.Pre) then
        some false
      else
        if (neS a.Local b.Local) then
          some false
        else
          if (neS a.Val b.Val) then
            some false
          else
            some true
def laws_eqPredS_l14 (a : List GPred) (b : List GPred) (i : Int) : Option (Bool) :=
  if (ltI i (lenL a)) then
    getI a i >>= fun x2 =>
    getI b i >>= fun x3 =>
    laws_eqPred x2 x3 >>= fun r1 =>
    if r1 then
      laws_eqPredS_l14 a b (addI i 1)
    else
      some false
  else
    some true
  partial_fixpoint
def laws_eqPredS (a : List GPred) (b : List GPred) : Option (Bool) :=
  if (neI (lenL a) (lenL b)) then
    some false
  else
    laws_eqPredS_l14 a b 0
def laws_eqStep (a : GStp) (b : GStp) : Option (Bool) :=
  if (neB a.Deep b.Deep) then
    some false
  else
    if (neI a.Kind b.Kind) then
      some false
    else
      if (neS a.Pre b.Pre) then
        some false
      else
        if (neS a.Local b.Local) then
          some false
        else
          laws_eqPredS a.Preds b.Preds >>= fun r =>
          if r then
            some true
          else
            some false
def laws_eqStepS_l14 (a : List GStp) (b : List GStp) (i : Int) : Option (Bool) :=
  if (ltI i (lenL a)) then
    getI a i >>= fun x2 =>
    getI b i >>= fun x3 =>
    laws_eqStep x2 x3 >>= fun r1 =>
    if r1 then
      laws_eqStepS_l14 a b (addI i 1)
    else
      some false
  else
    some true
  partial_fixpoint
def laws_eqStepS (a : List GStp) (b : List GStp) : Option (Bool) :=
  if (neI (lenL a) (lenL b)) then
    some false
  else
    laws_eqStepS_l14 a b 0
def laws_eqSel (a : GSel) (b : GSel) : Option (Bool) :=
  if (neS a.Id b.Id) then
    some false
  else
    laws_eqStepS a.Steps b.Steps >>= fun r =>
    if r then
      some true
    else
      some false
def laws_FnExactSelText (aS : GSel) : Option (Bool) :=
  laws_szSel aS 1048576 >>= fun r =>
  if (ltI r 0) then
    some true
  else
    laws_toSel aS >>= fun r1 =>
    spec_SelText r1 >>= fun r2 =>
    laws_toSel aS >>= fun r3 =>
    impl_SelText r3 >>= fun r4 =>
    if (neS r4 r2) then
      some false
    else
      laws_toSel aS >>= fun r5 =>
      laws_eqSel r3 r5 >>= fun r6 =>
      if r6 then
        some true
      else
        some false
end TT
