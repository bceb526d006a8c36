import Derived.Test.YtejfgkcjhmmjkaaGreatDoorTLLd
set_option maxHeartbeats 2000000
set_option linter.unusedVariables false
set_option linter.unusedSimpArgs false
set_option linter.defProp false
set_option maxRecDepth 100000
namespace TT
open Go
open Nat (reduceAdd reduceSub reduceMul reduceLeDiff reduceLT reduceEqDiff)
theorem spec_l3One_j8_ok : ∀ (n : Int), Ok (spec_l3One_j8 n) e_spec_l3One (ev FTA c_spec_l3One k_spec_l3One_r8 [.hk [.kill [15], .clean []], .th k_spec_l3One_r2] (putS (List.replicate 56 .dead) [(6, .t (.v (.int .i64 n)))]) (putR (List.replicate 56 []) [])) := by
 intro n
 have k0 := @k_spec_l3One_r8.eq_1; have f0 := @spec_l3One_j8.eq_1; have g0 := spec_SignText_ok; have g1 := spec_IsSign_ok
 exact gs
theorem spec_l3One_l30_ok (s : ByteArray) (l : List GEnt) : ∀ (i : Int), Ok (spec_l3One_l30 s l i) e_spec_l3One (ev FTA c_spec_l3One (.loop k_spec_l3One_l30) [.lv 0, .th k_spec_l3One_r26] (putS (List.replicate 56 .dead) [(0, .t (.v (.string s))), (1, .t (.sl false (l.map GEnt.row))), (7, .t (.v (.int .i64 i)))]) (putR (List.replicate 56 []) [])) := by
 unfold Ok
 refine spec_l3One_l30.partial_correctness s l _ ?_
 intro F ih i
 show Ok _ _ _
 have ih : ∀ (i : Int), Ok (F i) _ _ := ih
 rw [ev_loop]
 have k0 := @k_spec_l3One_l30.eq_1; have k1 := @k_spec_l3One_r26.eq_1; have t0 := ih
 exact gs
theorem spec_l3One_j3_ok : ∀ (s : ByteArray) (l : List GEnt) (x1 : Bool), Ok (spec_l3One_j3 s l x1) e_spec_l3One (ev FTA c_spec_l3One k_spec_l3One_r3 [.hk [.kill [15], .clean []], .th k_spec_l3One_r2] (putS (List.replicate 56 .dead) [(0, .t (.v (.string s))), (1, .t (.sl false (l.map GEnt.row))), (15, .t (.v (.bool x1)))]) (putR (List.replicate 56 []) [])) := by
 intro s l x1
 have k0 := @k_spec_l3One_r3.eq_1; have k1 := @k_spec_l3One_r2.eq_1; have f0 := @spec_l3One_j3.eq_1; have g0 := spec_l3Number_ok; have g1 := spec_l3Known_ok; have t0 := spec_l3One_j8_ok; have t1 := spec_l3One_l30_ok
 exact gs
theorem spec_l3One_ok : ∀ (s : ByteArray) (l : List GEnt), Ok (spec_l3One s l) e_spec_l3One (dn FTA n_spec_l3One [.t (.v (.string s)), .t (.sl false (l.map GEnt.row))]) := by
 intro s l
 rw [den_ev FTA (fn := k_spec_l3One) rfl (xN rfl rfl _) (lB rfl)]
 have k0 := @k_spec_l3One.eq_1; have f0 := @spec_l3One.eq_1; have t0 := spec_l3One_j3_ok
 exact gs
theorem G_spec_Expand_l37 (s : ByteArray) (l : List GEnt) : (∀ (out : ByteArray) (at1 : Int) (k1 : Int), Ok (spec_Expand_l37 s l out at1 k1) e_spec_Expand (ev FTA c_spec_Expand (.loop k_spec_Expand_l37) [.lv 2, .hk [.kill [46], .clean []], .th k_spec_Expand_r35, .lv 1, .th k_spec_Expand_r23, .hk [.clean []], .th (.loop k_spec_Expand_l16), .lv 0, .th k_spec_Expand_r12] (putS (List.replicate 73 .dead) [(0, .t (.v (.string s))), (1, .t (.sl false (l.map GEnt.row))), (6, .t (.v (.string out))), (7, .t (.v (.int .i64 at1))), (8, .t (.v (.int .i64 k1)))]) (putR (List.replicate 73 []) []))) ∧
  (∀ (out : ByteArray) (at1 : Int) (k1 : Int), Ok (spec_Expand_j35 s l out at1 k1) e_spec_Expand (ev FTA c_spec_Expand k_spec_Expand_r35 [.lv 1, .th k_spec_Expand_r23, .hk [.clean []], .th (.loop k_spec_Expand_l16), .lv 0, .th k_spec_Expand_r12] (putS (List.replicate 73 .dead) [(0, .t (.v (.string s))), (1, .t (.sl false (l.map GEnt.row))), (6, .t (.v (.string out))), (7, .t (.v (.int .i64 at1))), (8, .t (.v (.int .i64 k1)))]) (putR (List.replicate 73 []) []))) ∧
  (∀ (out : ByteArray) (at1 : Int), Ok (spec_Expand_l16 s l out at1) e_spec_Expand (ev FTA c_spec_Expand (.loop k_spec_Expand_l16) [.lv 0, .th k_spec_Expand_r12] (putS (List.replicate 73 .dead) [(0, .t (.v (.string s))), (1, .t (.sl false (l.map GEnt.row))), (6, .t (.v (.string out))), (7, .t (.v (.int .i64 at1)))]) (putR (List.replicate 73 []) []))) := by
 unfold Ok
 refine spec_Expand_l37.mutual_partial_correctness s l _ _ _ ?_ ?_ ?_
 ·intro F0 F1 ih0 ih1 out at1 k1
  show Ok _ _ _
  have ih0 : ∀ (out : ByteArray) (at1 : Int) (k1 : Int), Ok (F0 out at1 k1) _ _ := ih0
  have ih1 : ∀ (out : ByteArray) (at1 : Int) (k1 : Int), Ok (F1 out at1 k1) _ _ := ih1
  rw [ev_loop]
  have k0 := @k_spec_Expand_l37.eq_1; have t0 := ih0; have t1 := ih1
  exact gs
 ·intro F2 ih2 out at1 k1
  show Ok _ _ _
  have ih2 : ∀ (out : ByteArray) (at1 : Int), Ok (F2 out at1) _ _ := ih2
  have k0 := @k_spec_Expand_r35.eq_1; have k1 := @k_spec_Expand_r23.eq_1; have g0 := spec_l3One_ok; have t0 := ih2
  exact gs
 ·intro F0 F2 ih0 ih2 out at1
  show Ok _ _ _
  have ih2 : ∀ (out : ByteArray) (at1 : Int), Ok (F2 out at1) _ _ := ih2
  have ih0 : ∀ (out : ByteArray) (at1 : Int) (k1 : Int), Ok (F0 out at1 k1) _ _ := ih0
  rw [ev_loop]
  have k0 := @k_spec_Expand_l16.eq_1; have k1 := @k_spec_Expand_r12.eq_1; have k2 := @k_spec_Expand_r23.eq_1; have g0 := spec_TextOk_ok; have t0 := ih2; have t1 := ih0
  exact gs
theorem spec_Expand_ok : ∀ (s : ByteArray) (l : List GEnt), Ok (spec_Expand s l) e_spec_Expand (dn FTA n_spec_Expand [.t (.v (.string s)), .t (.sl false (l.map GEnt.row))]) := by
 intro s l
 rw [den_ev FTA (fn := k_spec_Expand) rfl (xN rfl rfl _) (lB rfl)]
 have k0 := @k_spec_Expand.eq_1; have f0 := @spec_Expand.eq_1; have g0 := spec_l1Signs_ok; have g1 := spec_EntsOk_ok; have t0 := fun a0 a1 => (G_spec_Expand_l37 a0 a1).2.2
 exact gs
theorem spec_l3Esc_l8_ok (s : ByteArray) : ∀ (attr1 : Bool) (out : ByteArray) (i : Int), Ok (spec_l3Esc_l8 s attr1 out i) e_spec_l3Esc (ev FTA c_spec_l3Esc (.loop k_spec_l3Esc_l8) [.lv 0, .th k_spec_l3Esc_r4] (putS (List.replicate 43 .dead) [(0, .t (.v (.string s))), (1, .t (.v (.bool attr1))), (5, .t (.v (.string out))), (6, .t (.v (.int .i64 i)))]) (putR (List.replicate 43 []) [])) := by
 unfold Ok
 refine spec_l3Esc_l8.partial_correctness s _ ?_
 intro F ih attr1 out i
 show Ok _ _ _
 have ih : ∀ (attr1 : Bool) (out : ByteArray) (i : Int), Ok (F attr1 out i) _ _ := ih
 rw [ev_loop]
 have k0 := @k_spec_l3Esc_l8.eq_1; have k1 := @k_spec_l3Esc_r4.eq_1; have t0 := ih
 exact gs
theorem spec_l3Esc_ok : ∀ (s : ByteArray) (attr : Bool), Ok (spec_l3Esc s attr) e_spec_l3Esc (dn FTA n_spec_l3Esc [.t (.v (.string s)), .t (.v (.bool attr))]) := by
 intro s attr
 rw [den_ev FTA (fn := k_spec_l3Esc) rfl (xN rfl rfl _) (lB rfl)]
 have k0 := @k_spec_l3Esc.eq_1; have f0 := @spec_l3Esc.eq_1; have t0 := spec_l3Esc_l8_ok
 exact gs
theorem spec_EscText_ok : ∀ (s : ByteArray), Ok (spec_EscText s) e_spec_EscText (dn FTA n_spec_EscText [.t (.v (.string s))]) := by
 intro s
 rw [den_ev FTA (fn := k_spec_EscText) rfl (xN rfl rfl _) (lB rfl)]
 have k0 := @k_spec_EscText.eq_1; have f0 := @spec_EscText.eq_1; have g0 := spec_l3Esc_ok
 exact gs
theorem spec_EscAttr_ok : ∀ (s : ByteArray), Ok (spec_EscAttr s) e_spec_EscAttr (dn FTA n_spec_EscAttr [.t (.v (.string s))]) := by
 intro s
 rw [den_ev FTA (fn := k_spec_EscAttr) rfl (xN rfl rfl _) (lB rfl)]
 have k0 := @k_spec_EscAttr.eq_1; have f0 := @spec_EscAttr.eq_1; have g0 := spec_l3Esc_ok
 exact gs
theorem laws_FnRefs_l55_ok (r1 : ByteArray) (r2 : ByteArray) (r3 : ByteArray) (r4 : ByteArray × List GEnt) : ∀ (i2 : Int), Ok (laws_FnRefs_l55 r1 r2 r3 r4 i2) e_laws_FnRefs (ev FTA c_laws_FnRefs (.loop k_laws_FnRefs_l55) [.lv 2, .th k_laws_FnRefs_r51] (putS (List.replicate 159 .dead) [(3, .t (.v (.string r1))), (4, .t (.v (.string r2))), (5, .t (.v (.string r3))), (7, .t (.sl false (r4.2.map GEnt.row))), (13, .t (.v (.int .i64 i2)))]) (putR (List.replicate 159 []) [])) := by
 unfold Ok
 refine laws_FnRefs_l55.partial_correctness r1 r2 r3 r4 _ ?_
 intro F ih i2
 show Ok _ _ _
 have ih : ∀ (i2 : Int), Ok (F i2) _ _ := ih
 rw [ev_loop]
 have k0 := @k_laws_FnRefs_l55.eq_1; have k1 := @k_laws_FnRefs_r51.eq_1; have g0 := impl_TextOk_ok; have g1 := impl_Expand_ok; have g2 := impl_EntsOk_ok; have t0 := ih
 exact gs
theorem laws_FnRefs_l34_ok (r1 : ByteArray) (r2 : ByteArray) (r3 : ByteArray) (r4 : ByteArray × List GEnt) : ∀ (i1 : Int), Ok (laws_FnRefs_l34 r1 r2 r3 r4 i1) e_laws_FnRefs (ev FTA c_laws_FnRefs (.loop k_laws_FnRefs_l34) [.lv 0, .th k_laws_FnRefs_r30] (putS (List.replicate 159 .dead) [(3, .t (.v (.string r1))), (4, .t (.v (.string r2))), (5, .t (.v (.string r3))), (7, .t (.sl false (r4.2.map GEnt.row))), (12, .t (.v (.int .i64 i1)))]) (putR (List.replicate 159 []) [])) := by
 unfold Ok
 refine laws_FnRefs_l34.partial_correctness r1 r2 r3 r4 _ ?_
 intro F ih i1
 show Ok _ _ _
 have ih : ∀ (i1 : Int), Ok (F i1) _ _ := ih
 rw [ev_loop]
 have k0 := @k_laws_FnRefs_l34.eq_1; have k1 := @k_laws_FnRefs_r30.eq_1; have t0 := ih; have t1 := laws_FnRefs_l55_ok
 exact gs
theorem laws_FnRefs_ok : ∀ (code : List Int), Ok (laws_FnRefs code) e_laws_FnRefs (dn FTA n_laws_FnRefs [.t (.sl false (code.map (rK .u8)))]) := by
 intro code
 rw [den_ev FTA (fn := k_laws_FnRefs) rfl (xN rfl rfl _) (lB rfl)]
 have k0 := @k_laws_FnRefs.eq_1; have f0 := @laws_FnRefs.eq_1; have g0 := laws_big_ok; have g1 := spec_DrawEscText_ok; have g2 := impl_EscText_ok; have g3 := impl_EscAttr_ok; have g4 := spec_DrawExpand_ok; have g5 := impl_Expand_ok; have g6 := spec_Expand_ok; have g7 := impl_EntsOk_ok; have g8 := spec_EntsOk_ok; have g9 := spec_EscText_ok; have g10 := spec_EscAttr_ok; have t0 := laws_FnRefs_l34_ok
 exact gs
end TT
