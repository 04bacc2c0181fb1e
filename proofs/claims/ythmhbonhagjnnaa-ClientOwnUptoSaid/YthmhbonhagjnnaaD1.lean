/- Memory is nobody else's. -/
import Derived.Test.YthmhbonhagjnnaaProg
import Derived.Test.YthmhbonhagjnnaaC9
import Derived.KernelRfl
namespace Go.Proofs.Ythmhbonhagjnnaa
open Go.RowKit
set_option linter.unusedVariables false
set_option linter.unusedSimpArgs false
theorem has15_D1 : Has Try.prog 15 Try.f15 := ⟨Try.func15, by kernel_rfl, rfl⟩
theorem has16_D1 : Has Try.prog 16 Try.f16 := ⟨Try.func16, by kernel_rfl, rfl⟩
theorem has18_D1 : Has Try.prog 18 Try.f18 := ⟨Try.func18, by kernel_rfl, rfl⟩
theorem has19_D1 : Has Try.prog 19 Try.f19 := ⟨Try.func19, by kernel_rfl, rfl⟩
theorem has20_D1 : Has Try.prog 20 Try.f20 := ⟨Try.func20, by kernel_rfl, rfl⟩
theorem own25 {t : Txn} {vtc vta vtr vtw : Value} {w : World} (htc : RdE w.heap ByteE vtc t.code) (hta : RdE w.heap IntE vta t.args) (htr : RdE w.heap KeyE vtr t.reads) (htw : RdE w.heap KeyE vtw t.writes) (hn : t.small) (hB : ∀ x ∈ t.code, 0 ≤ x ∧ x ≤ 255) :
    Fn Try.prog 3 #[(.agg #[.int .i64 t.se, .int .i64 t.rq, vtc, vta, vtr, vtw])] w fun v w' => v = .bool true ∧ Le w w' := by
 refine Fn.enter 137 [(0, _)] Try.func3 rfl rfl rfl rfl ?_
 have hsm := hn
 obtain ⟨hnc, hna, hnr, hnw⟩ := hn
 refine W_seq ?_
 refine W_reg (.one 0 (.pure 1 .nil)) rfl ?_
 refine LT rfl rfl rfl (xbox rfl) ?_
 rintro _ w1 ⟨b1, rfl, hl1, hb1, hb1z⟩
 refine ⟨trivial, ?_⟩
 refine LP rfl rfl rfl (xas rfl) ?_
 refine LZ ?_
 refine F_seq ?_
 refine W_seq ?_
 refine W_reg (.one 0 (.pure 1 (.pure 2 (.pure 3 (.pure 4 (.pure 5 .nil)))))) rfl ?_
 refine LF rfl rfl rfl has14_C9 rfl (c_new (se := (2 : Int)) (reps := (2 : Int))) ?_
 rintro _ w2 (⟨hne1, rfl, hl2⟩ | ⟨he1, b2, wm1, rfl, hl3, hz1, hl4, hcl1⟩)
 ·
  exact absurd (by decide) hne1
 ·
  refine ⟨trivial, ?_⟩
  have hb2 := (hcl1 []).hb
  refine LP rfl rfl rfl (xmv rfl) ?_
  refine LP rfl rfl rfl (xext rfl rfl) ?_
  refine LP rfl rfl rfl (xext rfl rfl) ?_
  refine LP rfl rfl rfl (xas rfl) ?_
  refine LP rfl rfl rfl (xas rfl) ?_
  refine LZ ?_
  refine F_seq ?_
  refine W_seq ?_
  refine W_reg (.one 0 (.pure 1 (.pure 2 (.pure 3 (.pure 4 (.pure 5 .nil)))))) rfl ?_
  refine LF rfl rfl rfl has15_D1 rfl (r_new (se := (2 : Int)) (reps := (2 : Int))) ?_
  rintro _ w3 (⟨hne2, rfl, hl5⟩ | ⟨he2, b3, wm2, rfl, hl6, hz2, hl7, hcl2⟩)
  ·
   exact absurd (by decide) hne2
  ·
   refine ⟨trivial, ?_⟩
   have hb3 := (hcl2 []).hb
   refine LP rfl rfl rfl (xmv rfl) ?_
   refine LP rfl rfl rfl (xext rfl rfl) ?_
   refine LP rfl rfl rfl (xext rfl rfl) ?_
   refine LP rfl rfl rfl (xas rfl) ?_
   refine LP rfl rfl rfl (xas rfl) ?_
   refine LZ ?_
   refine F_seq ?_
   refine W_seq ?_
   refine W_seq ?_
   refine W_reg (.pure 0 (.pure 1 (.pure 2 (.one 3 (.pure 4 (.pure 5 .nil)))))) rfl ?_
   refine LP rfl rfl rfl (xmv rfl) ?_
   refine LP rfl rfl rfl (xneq rfl rfl) ?_
   refine L_is 28 (v := .bool false) rfl (by simp) ?_
   refine LP rfl rfl rfl (xmv rfl) ?_
   refine LF rfl rfl rfl has16_D1 rfl live25 ?_
   rintro _ w4 ⟨rfl, hl8⟩
   refine ⟨trivial, ?_⟩
   refine LP rfl rfl rfl (xnot rfl) ?_
   refine LP rfl rfl rfl (xpk0 rfl rfl) ?_
   refine LZ ?_
   refine F_seq ?_
   refine W_else rfl ?_
   refine W_skip ?_
   refine F_seq ?_
   refine W_seq ?_
   refine W_reg (.one 0 (.one 1 (.one 2 .nil))) rfl ?_
   refine LX rfl rfl rfl (xlb6 ag26 (Le.bk (hl3.trans (hl4.trans (hl6.trans (hl7.trans hl8)))) hb1) rfl rfl rfl rfl rfl rfl rfl) trivial ?_
   refine LT rfl rfl rfl (xal zr26) ?_
   rintro _ w5 ⟨b4, rfl, hl9, hb4, hb4z⟩
   refine ⟨trivial, ?_⟩
   refine LU rfl rfl (xsb sz26 hb4 rfl rfl (agg_cells _) rfl rfl (al_cons rfl (al_cons rfl (al_cons htc.sh.one (al_cons hta.sh.one (al_cons htr.sh.one (al_cons htw.sh.one al_nil))))))) ?_
   rintro w6 ⟨hq1, hb5⟩
   dsimp only [put] at hb5
   refine ⟨trivial, ?_⟩
   refine LZ ?_
   refine F_seq ?_
   refine W_cutx (ι := Value × Value) (fun ⟨xc, xa⟩ => []) (fun ⟨xc, xa⟩ w' => Lx [b4] w6 w' ∧ w'.heap[b4]? = some (.cells #[.int .i64 t.se, .int .i64 t.rq, xc, xa, vtr, vtw] 26 (0, 0)) ∧ Ow w' w6 5 ByteE xc t.code ∧ Ow w' w6 2 IntE xa t.args) ?_ ?_
   ·
    refine W_draw (.pure 1 (.still 2 (.pure 5 (.still 6 (.two 0 4 (.two 3 4 (.pure 8 (.one 4 (.tail 7 (.tail 9 (.pure 10 (.tail 11 .nil)))))) (.one 3 (.pure 8 (.tail 7 (.tail 9 (.pure 10 (.tail 11 .nil))))))) (.one 0 (.one 3 (.pure 8 (.tail 7 (.tail 9 (.pure 10 (.tail 11 .nil)))))))))))) (Le w6) hfol (by kernel_rfl) (pkt pkB) (Le.drew _) ?_
    refine LP rfl rfl rfl (xfa fa26_2 rfl) ?_
    have le1 : Le w1 w6 := (hq1.le (hl3.trans (hl4.trans (hl6.trans (hl7.trans (hl8.trans hl9))))) (inc (Nat.le_trans hl3.size (Nat.le_trans hl4.size (Nat.le_trans hl6.size (Nat.le_trans hl7.size hl8.size)))) hb4z inn))
    refine LS rfl rfl rfl (fun w' hw' => (xld sc22 rfl (cl_bk (Le.bk (le1.trans hw') hb1) rfl))) ?_
    refine LP rfl rfl rfl (xfa fa26_3 rfl) ?_
    refine LS rfl rfl rfl (fun w' hw' => (xld sc23 rfl (cl_bk (Le.bk (le1.trans hw') hb1) rfl))) ?_
    refine L_two ?_ ?_
    ·
     refine LT rfl rfl rfl (xbs rfl (bs22_0 ())) ?_
     rintro _ w8 ⟨b5, rfl, hl11, hb6, hb6z⟩
     refine ⟨((Le.drew w6).trans hl11), ?_⟩
     have hr1 : Ow w8 w6.drew 5 ByteE _ [] := Ow.of_bk hb6 rfl hb6z (Nat.le_of_ble_eq_true rfl)
     refine L_two ?_ ?_
     ·
      have le2 : Le w w6 := (hq1.le (hl1.trans (hl3.trans (hl4.trans (hl6.trans (hl7.trans (hl8.trans hl9)))))) (inc (Nat.le_trans hl1.size (Nat.le_trans hl3.size (Nat.le_trans hl4.size (Nat.le_trans hl6.size (Nat.le_trans hl7.size hl8.size))))) hb4z inn))
      refine LT rfl rfl rfl (xapp (E := ByteE) un22 el5 sz5 rfl hr1 (RdE.le (le2.trans ((Le.drew w6).trans hl11)) htc) hl11 (by simp only [List.length_append, List.length_take, List.length_drop, List.length_cons, List.length_nil, maxLen]; omega) (by simp only [List.length_append, List.length_take, List.length_drop, List.length_cons, List.length_nil, maxLen]; omega) rfl rfl) ?_
      rintro v2 w9 ⟨hl12, ho1, hg1⟩
      refine ⟨((Le.drew w6).trans hl12), ?_⟩
      refine LP rfl rfl rfl (xfa fa26_2 rfl) ?_
      refine LT rfl rfl rfl (xbs rfl (bs23_0 ())) ?_
      rintro _ w10 ⟨b6, rfl, hl13, hb7, hb7z⟩
      refine ⟨((Le.drew w6).trans (hl12.trans hl13)), ?_⟩
      have hr2 : Ow w10 w9 2 IntE _ [] := Ow.of_bk hb7 rfl hb7z (Nat.le_of_ble_eq_true rfl)
      refine LTt rfl rfl rfl (xapp (E := IntE) un23 el2 sz2 rfl hr2 (RdE.le (le2.trans ((Le.drew w6).trans (hl12.trans hl13))) hta) hl13 (by simp only [List.length_append, List.length_take, List.length_drop, List.length_cons, List.length_nil, maxLen]; omega) (by simp only [List.length_append, List.length_take, List.length_drop, List.length_cons, List.length_nil, maxLen]; omega) rfl rfl) ?_
      rintro v3 w11 ⟨hl14, ho2, hg2⟩
      refine LUt rfl rfl (xsb sz22 (Le.bk ((Le.drew w6).trans (hl12.trans hl14)) hb5) rfl rfl ho1.rd.sh.cells rfl rfl (al_cons ho1.rd.sh.one al_nil)) ?_
      rintro w12 ⟨hq2, hb8⟩
      dsimp only [put] at hb8
      have hk1 := hq2.ow (Off.cons (Ow.ne_new ho1 (Nat.lt_of_lt_of_le (bk_lt hb4) (Nat.le_trans hq1.size (Le.drew w6).size))) Off.nil) (ho1.le hl14)
      have hk2 := hq2.ow (Off.cons (Ow.ne_new ho2 (Nat.lt_of_lt_of_le (bk_lt hb4) (Nat.le_trans hq1.size (Nat.le_trans (Le.drew w6).size (Nat.le_trans hl11.size hg1.lx.size))))) Off.nil) ho2
      refine LP rfl rfl rfl (xfa fa26_3 rfl) ?_
      refine LUt rfl rfl (xsb sz23 hb8 rfl rfl hk2.rd.sh.cells rfl rfl (al_cons hk2.rd.sh.one al_nil)) ?_
      rintro w13 ⟨hq3, hb9⟩
      dsimp only [put] at hb9
      have hk3 := hq3.ow (Off.cons (Ow.ne_new ho1 (Nat.lt_of_lt_of_le (bk_lt hb4) (Nat.le_trans hq1.size (Le.drew w6).size))) Off.nil) hk1
      have hk4 := hq3.ow (Off.cons (Ow.ne_new ho2 (Nat.lt_of_lt_of_le (bk_lt hb4) (Nat.le_trans hq1.size (Nat.le_trans (Le.drew w6).size (Nat.le_trans hl11.size hg1.lx.size))))) Off.nil) hk2
      refine LZ ?_
      have lx1 : Lx [b4] w6 w9 := (hg1.lx.drop (Lx.trans (Lx.trans (Lx.refl _ _) (Le.drew w6).lx) hl11.lx) (dr_row hr1 (Le.drew w6).size))
      have lx2 : Lx [b4] w6 w11 := (hg2.lx.drop (Lx.trans lx1 hl13.lx) (dr_row hr2 (Nat.le_trans (Le.drew w6).size (Nat.le_trans hl11.size hg1.lx.size))))
      have lx3 : Lx [b4] w6 w12 := (hq2.drop lx2 (dr_in (by simp) dr_nil))
      have lx4 : Lx [b4] w6 w13 := (hq3.drop lx3 (dr_in (by simp) dr_nil))
      exact F_cutx ⟨_, _⟩ ⟨lx4, hb9, (by simpa using (hk3).base (Le.drew w6).size), (by simpa using (hk4).base (Nat.le_trans (Le.drew w6).size (Nat.le_trans hl11.size hg1.lx.size)))⟩ (lk_loop (vs0 := []) 10 rfl rfl hvn)
     ·
      refine LT rfl rfl rfl (xbs rfl (bs23_0 ())) ?_
      rintro _ w14 ⟨b7, rfl, hl15, hb10, hb10z⟩
      refine ⟨((Le.drew w6).trans (hl11.trans hl15)), ?_⟩
      have hr3 : Ow w14 w8 2 IntE _ [] := Ow.of_bk hb10 rfl hb10z (Nat.le_of_ble_eq_true rfl)
      have le3 : Le w w6 := (hq1.le (hl1.trans (hl3.trans (hl4.trans (hl6.trans (hl7.trans (hl8.trans hl9)))))) (inc (Nat.le_trans hl1.size (Nat.le_trans hl3.size (Nat.le_trans hl4.size (Nat.le_trans hl6.size (Nat.le_trans hl7.size hl8.size))))) hb4z inn))
      refine LT rfl rfl rfl (xapp (E := ByteE) un22 el5 sz5 rfl (hr1.le hl15) (RdE.le (le3.trans ((Le.drew w6).trans (hl11.trans hl15))) htc) (hl11.trans hl15) (by simp only [List.length_append, List.length_take, List.length_drop, List.length_cons, List.length_nil, maxLen]; omega) (by simp only [List.length_append, List.length_take, List.length_drop, List.length_cons, List.length_nil, maxLen]; omega) rfl rfl) ?_
      rintro v4 w15 ⟨hl16, ho3, hg3⟩
      have hk5 := hg3.lx.ow (Ow.off_new hr3 hr1 (Nat.le_refl _)) hr3
      refine ⟨((Le.drew w6).trans hl16), ?_⟩
      have hof1 := Apd.off hg3 (Ow.off_old hr1 hr3 (Nat.le_refl _)) (fun i hi => Nat.lt_of_lt_of_le (Ow.lt hr3 i hi) (Nat.le_refl _))
      refine LP rfl rfl rfl (xfa fa26_2 rfl) ?_
      refine LTt rfl rfl rfl (xapp (E := IntE) un23 el2 sz2 rfl (hk5.base hl11.size) (RdE.le (le3.trans ((Le.drew w6).trans hl16)) hta) hl16 (by simp only [List.length_append, List.length_take, List.length_drop, List.length_cons, List.length_nil, maxLen]; omega) (by simp only [List.length_append, List.length_take, List.length_drop, List.length_cons, List.length_nil, maxLen]; omega) rfl rfl) ?_
      rintro v5 w16 ⟨hl17, ho4, hg4⟩
      have hk6 := hg4.lx.ow hof1 ho3
      have hof2 := Apd.off hg4 (Off.symm hof1) (fun i hi => Nat.lt_of_lt_of_le (Ow.lt ho3 i hi) (Nat.le_refl _))
      refine LUt rfl rfl (xsb sz22 (Le.bk ((Le.drew w6).trans hl17) hb5) rfl rfl hk6.rd.sh.cells rfl rfl (al_cons hk6.rd.sh.one al_nil)) ?_
      rintro w17 ⟨hq4, hb11⟩
      dsimp only [put] at hb11
      have hk7 := hq4.ow (Off.cons (Ow.ne_new ho3 (Nat.lt_of_lt_of_le (bk_lt hb4) (Nat.le_trans hq1.size (Le.drew w6).size))) Off.nil) hk6
      have hk8 := hq4.ow (Off.cons (Ow.ne_new ho4 (Nat.lt_of_lt_of_le (bk_lt hb4) (Nat.le_trans hq1.size (Le.drew w6).size))) Off.nil) ho4
      refine LP rfl rfl rfl (xfa fa26_3 rfl) ?_
      refine LUt rfl rfl (xsb sz23 hb11 rfl rfl hk8.rd.sh.cells rfl rfl (al_cons hk8.rd.sh.one al_nil)) ?_
      rintro w18 ⟨hq5, hb12⟩
      dsimp only [put] at hb12
      have hk9 := hq5.ow (Off.cons (Ow.ne_new ho3 (Nat.lt_of_lt_of_le (bk_lt hb4) (Nat.le_trans hq1.size (Le.drew w6).size))) Off.nil) hk7
      have hk10 := hq5.ow (Off.cons (Ow.ne_new ho4 (Nat.lt_of_lt_of_le (bk_lt hb4) (Nat.le_trans hq1.size (Le.drew w6).size))) Off.nil) hk8
      refine LZ ?_
      have lx5 : Lx [b4] w6 w15 := (hg3.lx.drop (Lx.trans (Lx.trans (Lx.trans (Lx.refl _ _) (Le.drew w6).lx) hl11.lx) hl15.lx) (dr_row (hr1.le hl15) (Le.drew w6).size))
      have lx6 : Lx [b4] w6 w16 := (hg4.lx.drop lx5 (dr_row hk5 (Nat.le_trans (Le.drew w6).size hl11.size)))
      have lx7 : Lx [b4] w6 w17 := (hq4.drop lx6 (dr_in (by simp) dr_nil))
      have lx8 : Lx [b4] w6 w18 := (hq5.drop lx7 (dr_in (by simp) dr_nil))
      exact F_cutx ⟨_, _⟩ ⟨lx8, hb12, (by simpa using (hk9).base (Le.drew w6).size), (by simpa using (hk10).base (Le.drew w6).size)⟩ (lk_loop (vs0 := []) 10 rfl rfl hvn)
    ·
     refine LT rfl rfl rfl (xbs rfl (bs23_0 ())) ?_
     rintro _ w19 ⟨b8, rfl, hl18, hb13, hb13z⟩
     refine ⟨((Le.drew w6).trans hl18), ?_⟩
     have hr4 : Ow w19 w6.drew 2 IntE _ [] := Ow.of_bk hb13 rfl hb13z (Nat.le_of_ble_eq_true rfl)
     refine LT rfl rfl rfl (xbs rfl (bs22_0 ())) ?_
     rintro _ w20 ⟨b9, rfl, hl19, hb14, hb14z⟩
     refine ⟨((Le.drew w6).trans (hl18.trans hl19)), ?_⟩
     have hr5 : Ow w20 w19 5 ByteE _ [] := Ow.of_bk hb14 rfl hb14z (Nat.le_of_ble_eq_true rfl)
     have le4 : Le w w6 := (hq1.le (hl1.trans (hl3.trans (hl4.trans (hl6.trans (hl7.trans (hl8.trans hl9)))))) (inc (Nat.le_trans hl1.size (Nat.le_trans hl3.size (Nat.le_trans hl4.size (Nat.le_trans hl6.size (Nat.le_trans hl7.size hl8.size))))) hb4z inn))
     refine LT rfl rfl rfl (xapp (E := ByteE) un22 el5 sz5 rfl hr5 (RdE.le (le4.trans ((Le.drew w6).trans (hl18.trans hl19))) htc) hl19 (by simp only [List.length_append, List.length_take, List.length_drop, List.length_cons, List.length_nil, maxLen]; omega) (by simp only [List.length_append, List.length_take, List.length_drop, List.length_cons, List.length_nil, maxLen]; omega) rfl rfl) ?_
     rintro v6 w21 ⟨hl20, ho5, hg5⟩
     refine ⟨((Le.drew w6).trans (hl18.trans hl20)), ?_⟩
     refine LP rfl rfl rfl (xfa fa26_2 rfl) ?_
     refine LTt rfl rfl rfl (xapp (E := IntE) un23 el2 sz2 rfl (hr4.le hl20) (RdE.le (le4.trans ((Le.drew w6).trans (hl18.trans hl20))) hta) (hl18.trans hl20) (by simp only [List.length_append, List.length_take, List.length_drop, List.length_cons, List.length_nil, maxLen]; omega) (by simp only [List.length_append, List.length_take, List.length_drop, List.length_cons, List.length_nil, maxLen]; omega) rfl rfl) ?_
     rintro v7 w22 ⟨hl21, ho6, hg6⟩
     have hk11 := hg6.lx.ow (Ow.off_new ho5 hr4 (Nat.le_refl _)) ho5
     have hof3 := Apd.off hg6 (Ow.off_old hr4 ho5 (Nat.le_refl _)) (fun i hi => Nat.lt_of_lt_of_le (Ow.lt ho5 i hi) (Nat.le_refl _))
     refine LUt rfl rfl (xsb sz22 (Le.bk ((Le.drew w6).trans hl21) hb5) rfl rfl hk11.rd.sh.cells rfl rfl (al_cons hk11.rd.sh.one al_nil)) ?_
     rintro w23 ⟨hq6, hb15⟩
     dsimp only [put] at hb15
     have hk12 := hq6.ow (Off.cons (Ow.ne_new ho5 (Nat.lt_of_lt_of_le (bk_lt hb4) (Nat.le_trans hq1.size (Nat.le_trans (Le.drew w6).size hl18.size)))) Off.nil) hk11
     have hk13 := hq6.ow (Off.cons (Ow.ne_new ho6 (Nat.lt_of_lt_of_le (bk_lt hb4) (Nat.le_trans hq1.size (Le.drew w6).size))) Off.nil) ho6
     refine LP rfl rfl rfl (xfa fa26_3 rfl) ?_
     refine LUt rfl rfl (xsb sz23 hb15 rfl rfl hk13.rd.sh.cells rfl rfl (al_cons hk13.rd.sh.one al_nil)) ?_
     rintro w24 ⟨hq7, hb16⟩
     dsimp only [put] at hb16
     have hk14 := hq7.ow (Off.cons (Ow.ne_new ho5 (Nat.lt_of_lt_of_le (bk_lt hb4) (Nat.le_trans hq1.size (Nat.le_trans (Le.drew w6).size hl18.size)))) Off.nil) hk12
     have hk15 := hq7.ow (Off.cons (Ow.ne_new ho6 (Nat.lt_of_lt_of_le (bk_lt hb4) (Nat.le_trans hq1.size (Le.drew w6).size))) Off.nil) hk13
     refine LZ ?_
     have lx9 : Lx [b4] w6 w21 := (hg5.lx.drop (Lx.trans (Lx.trans (Lx.trans (Lx.refl _ _) (Le.drew w6).lx) hl18.lx) hl19.lx) (dr_row hr5 (Nat.le_trans (Le.drew w6).size hl18.size)))
     have lx10 : Lx [b4] w6 w22 := (hg6.lx.drop lx9 (dr_row (hr4.le hl20) (Le.drew w6).size))
     have lx11 : Lx [b4] w6 w23 := (hq6.drop lx10 (dr_in (by simp) dr_nil))
     have lx12 : Lx [b4] w6 w24 := (hq7.drop lx11 (dr_in (by simp) dr_nil))
     exact F_cutx ⟨_, _⟩ ⟨lx12, hb16, (by simpa using (hk14).base (Nat.le_trans (Le.drew w6).size hl18.size)), (by simpa using (hk15).base (Le.drew w6).size)⟩ (lk_loop (vs0 := []) 10 rfl rfl hvn)
   ·
    rintro ⟨xc, xa⟩ w7 ⟨hl10, hbmxc, hoxc, hoxa⟩
    show W _ _ _ _ _ ([] ++ _) _
    refine W_cutx (ι := Value × Value) (fun ⟨xr, xw⟩ => []) (fun ⟨xr, xw⟩ w' => Lx [b4] w7 w' ∧ w'.heap[b4]? = some (.cells #[.int .i64 t.se, .int .i64 t.rq, xc, xa, xr, xw] 26 (0, 0)) ∧ Ow w' w7 40 KeyE xr t.reads ∧ Ow w' w7 40 KeyE xw t.writes) ?_ ?_
    ·
     refine W_draw (.pure 1 (.still 2 (.pure 5 (.still 6 (.two 0 4 (.two 3 4 (.pure 8 (.one 4 (.tail 7 (.tail 9 (.pure 10 (.tail 11 .nil)))))) (.one 3 (.pure 8 (.tail 7 (.tail 9 (.pure 10 (.tail 11 .nil))))))) (.one 0 (.one 3 (.pure 8 (.tail 7 (.tail 9 (.pure 10 (.tail 11 .nil)))))))))))) (Le w7) hfol (by kernel_rfl) (pkt pkB) (Le.drew _) ?_
     refine LP rfl rfl rfl (xfa fa26_4 rfl) ?_
     have le5 : Le w1 w6 := (hq1.le (hl3.trans (hl4.trans (hl6.trans (hl7.trans (hl8.trans hl9))))) (inc (Nat.le_trans hl3.size (Nat.le_trans hl4.size (Nat.le_trans hl6.size (Nat.le_trans hl7.size hl8.size)))) hb4z inn))
     have le6 : Le w1 w7 := (hl10.le le5 (inc (Nat.le_trans hl3.size (Nat.le_trans hl4.size (Nat.le_trans hl6.size (Nat.le_trans hl7.size hl8.size)))) hb4z inn))
     refine LS rfl rfl rfl (fun w' hw' => (xld sc24 rfl (cl_bk (Le.bk (le6.trans hw') hb1) rfl))) ?_
     refine LP rfl rfl rfl (xfa fa26_5 rfl) ?_
     refine LS rfl rfl rfl (fun w' hw' => (xld sc24 rfl (cl_bk (Le.bk (le6.trans hw') hb1) rfl))) ?_
     refine L_two ?_ ?_
     ·
      refine LT rfl rfl rfl (xbs rfl (bs24_0 ())) ?_
      rintro _ w26 ⟨b10, rfl, hl23, hb17, hb17z⟩
      refine ⟨((Le.drew w7).trans hl23), ?_⟩
      have hr6 : Ow w26 w7.drew 40 KeyE _ [] := Ow.of_bk hb17 rfl hb17z (Nat.le_of_ble_eq_true rfl)
      refine L_two ?_ ?_
      ·
       have le7 : Le w w6 := (hq1.le (hl1.trans (hl3.trans (hl4.trans (hl6.trans (hl7.trans (hl8.trans hl9)))))) (inc (Nat.le_trans hl1.size (Nat.le_trans hl3.size (Nat.le_trans hl4.size (Nat.le_trans hl6.size (Nat.le_trans hl7.size hl8.size))))) hb4z inn))
       have le8 : Le w w7 := (hl10.le le7 (inc (Nat.le_trans hl1.size (Nat.le_trans hl3.size (Nat.le_trans hl4.size (Nat.le_trans hl6.size (Nat.le_trans hl7.size hl8.size))))) hb4z inn))
       refine LT rfl rfl rfl (xapp (E := KeyE) un24 el40 sz40 rfl hr6 (RdE.le (le8.trans ((Le.drew w7).trans hl23)) htr) hl23 (by simp only [List.length_append, List.length_take, List.length_drop, List.length_cons, List.length_nil, maxLen]; omega) (by simp only [List.length_append, List.length_take, List.length_drop, List.length_cons, List.length_nil, maxLen]; omega) rfl rfl) ?_
       rintro v8 w27 ⟨hl24, ho7, hg7⟩
       refine ⟨((Le.drew w7).trans hl24), ?_⟩
       refine LP rfl rfl rfl (xfa fa26_4 rfl) ?_
       refine LT rfl rfl rfl (xbs rfl (bs24_0 ())) ?_
       rintro _ w28 ⟨b11, rfl, hl25, hb18, hb18z⟩
       refine ⟨((Le.drew w7).trans (hl24.trans hl25)), ?_⟩
       have hr7 : Ow w28 w27 40 KeyE _ [] := Ow.of_bk hb18 rfl hb18z (Nat.le_of_ble_eq_true rfl)
       refine LTt rfl rfl rfl (xapp (E := KeyE) un24 el40 sz40 rfl hr7 (RdE.le (le8.trans ((Le.drew w7).trans (hl24.trans hl25))) htw) hl25 (by simp only [List.length_append, List.length_take, List.length_drop, List.length_cons, List.length_nil, maxLen]; omega) (by simp only [List.length_append, List.length_take, List.length_drop, List.length_cons, List.length_nil, maxLen]; omega) rfl rfl) ?_
       rintro v9 w29 ⟨hl26, ho8, hg8⟩
       refine LUt rfl rfl (xsb sz24 (Le.bk ((Le.drew w7).trans (hl24.trans hl26)) hbmxc) rfl rfl ho7.rd.sh.cells rfl rfl (al_cons ho7.rd.sh.one al_nil)) ?_
       rintro w30 ⟨hq8, hb19⟩
       dsimp only [put] at hb19
       have hk16 := hq8.ow (Off.cons (Ow.ne_new hoxc (Nat.lt_of_lt_of_le (bk_lt hb4) hq1.size)) Off.nil) (hoxc.le ((Le.drew w7).trans (hl24.trans hl26)))
       have hk17 := hq8.ow (Off.cons (Ow.ne_new hoxa (Nat.lt_of_lt_of_le (bk_lt hb4) hq1.size)) Off.nil) (hoxa.le ((Le.drew w7).trans (hl24.trans hl26)))
       have hk18 := hq8.ow (Off.cons (Ow.ne_new ho7 (Nat.lt_of_lt_of_le (bk_lt hb4) (Nat.le_trans hq1.size (Nat.le_trans hl10.size (Le.drew w7).size)))) Off.nil) (ho7.le hl26)
       have hk19 := hq8.ow (Off.cons (Ow.ne_new ho8 (Nat.lt_of_lt_of_le (bk_lt hb4) (Nat.le_trans hq1.size (Nat.le_trans hl10.size (Nat.le_trans (Le.drew w7).size (Nat.le_trans hl23.size hg7.lx.size)))))) Off.nil) ho8
       refine LP rfl rfl rfl (xfa fa26_5 rfl) ?_
       refine LUt rfl rfl (xsb sz24 hb19 rfl rfl hk19.rd.sh.cells rfl rfl (al_cons hk19.rd.sh.one al_nil)) ?_
       rintro w31 ⟨hq9, hb20⟩
       dsimp only [put] at hb20
       have hk20 := hq9.ow (Off.cons (Ow.ne_new hoxc (Nat.lt_of_lt_of_le (bk_lt hb4) hq1.size)) Off.nil) hk16
       have hk21 := hq9.ow (Off.cons (Ow.ne_new hoxa (Nat.lt_of_lt_of_le (bk_lt hb4) hq1.size)) Off.nil) hk17
       have hk22 := hq9.ow (Off.cons (Ow.ne_new ho7 (Nat.lt_of_lt_of_le (bk_lt hb4) (Nat.le_trans hq1.size (Nat.le_trans hl10.size (Le.drew w7).size)))) Off.nil) hk18
       have hk23 := hq9.ow (Off.cons (Ow.ne_new ho8 (Nat.lt_of_lt_of_le (bk_lt hb4) (Nat.le_trans hq1.size (Nat.le_trans hl10.size (Nat.le_trans (Le.drew w7).size (Nat.le_trans hl23.size hg7.lx.size)))))) Off.nil) hk19
       refine LZ ?_
       have lx13 : Lx [b4] w7 w27 := (hg7.lx.drop (Lx.trans (Lx.trans (Lx.refl _ _) (Le.drew w7).lx) hl23.lx) (dr_row hr6 (Le.drew w7).size))
       have lx14 : Lx [b4] w7 w29 := (hg8.lx.drop (Lx.trans lx13 hl25.lx) (dr_row hr7 (Nat.le_trans (Le.drew w7).size (Nat.le_trans hl23.size hg7.lx.size))))
       have lx15 : Lx [b4] w7 w30 := (hq8.drop lx14 (dr_in (by simp) dr_nil))
       have lx16 : Lx [b4] w7 w31 := (hq9.drop lx15 (dr_in (by simp) dr_nil))
       exact F_cutx ⟨_, _⟩ ⟨lx16, hb20, (by simpa using (hk22).base (Le.drew w7).size), (by simpa using (hk23).base (Nat.le_trans (Le.drew w7).size (Nat.le_trans hl23.size hg7.lx.size)))⟩ (lk_loop (vs0 := []) 10 rfl rfl hvn)
      ·
       refine LT rfl rfl rfl (xbs rfl (bs24_0 ())) ?_
       rintro _ w32 ⟨b12, rfl, hl27, hb21, hb21z⟩
       refine ⟨((Le.drew w7).trans (hl23.trans hl27)), ?_⟩
       have hr8 : Ow w32 w26 40 KeyE _ [] := Ow.of_bk hb21 rfl hb21z (Nat.le_of_ble_eq_true rfl)
       have le9 : Le w w6 := (hq1.le (hl1.trans (hl3.trans (hl4.trans (hl6.trans (hl7.trans (hl8.trans hl9)))))) (inc (Nat.le_trans hl1.size (Nat.le_trans hl3.size (Nat.le_trans hl4.size (Nat.le_trans hl6.size (Nat.le_trans hl7.size hl8.size))))) hb4z inn))
       have le10 : Le w w7 := (hl10.le le9 (inc (Nat.le_trans hl1.size (Nat.le_trans hl3.size (Nat.le_trans hl4.size (Nat.le_trans hl6.size (Nat.le_trans hl7.size hl8.size))))) hb4z inn))
       refine LT rfl rfl rfl (xapp (E := KeyE) un24 el40 sz40 rfl (hr6.le hl27) (RdE.le (le10.trans ((Le.drew w7).trans (hl23.trans hl27))) htr) (hl23.trans hl27) (by simp only [List.length_append, List.length_take, List.length_drop, List.length_cons, List.length_nil, maxLen]; omega) (by simp only [List.length_append, List.length_take, List.length_drop, List.length_cons, List.length_nil, maxLen]; omega) rfl rfl) ?_
       rintro v10 w33 ⟨hl28, ho9, hg9⟩
       have hk24 := hg9.lx.ow (Ow.off_new hr8 hr6 (Nat.le_refl _)) hr8
       refine ⟨((Le.drew w7).trans hl28), ?_⟩
       have hof4 := Apd.off hg9 (Ow.off_old hr6 hr8 (Nat.le_refl _)) (fun i hi => Nat.lt_of_lt_of_le (Ow.lt hr8 i hi) (Nat.le_refl _))
       refine LP rfl rfl rfl (xfa fa26_4 rfl) ?_
       refine LTt rfl rfl rfl (xapp (E := KeyE) un24 el40 sz40 rfl (hk24.base hl23.size) (RdE.le (le10.trans ((Le.drew w7).trans hl28)) htw) hl28 (by simp only [List.length_append, List.length_take, List.length_drop, List.length_cons, List.length_nil, maxLen]; omega) (by simp only [List.length_append, List.length_take, List.length_drop, List.length_cons, List.length_nil, maxLen]; omega) rfl rfl) ?_
       rintro v11 w34 ⟨hl29, ho10, hg10⟩
       have hk25 := hg10.lx.ow hof4 ho9
       have hof5 := Apd.off hg10 (Off.symm hof4) (fun i hi => Nat.lt_of_lt_of_le (Ow.lt ho9 i hi) (Nat.le_refl _))
       refine LUt rfl rfl (xsb sz24 (Le.bk ((Le.drew w7).trans hl29) hbmxc) rfl rfl hk25.rd.sh.cells rfl rfl (al_cons hk25.rd.sh.one al_nil)) ?_
       rintro w35 ⟨hq10, hb22⟩
       dsimp only [put] at hb22
       have hk26 := hq10.ow (Off.cons (Ow.ne_new hoxc (Nat.lt_of_lt_of_le (bk_lt hb4) hq1.size)) Off.nil) (hoxc.le ((Le.drew w7).trans hl29))
       have hk27 := hq10.ow (Off.cons (Ow.ne_new hoxa (Nat.lt_of_lt_of_le (bk_lt hb4) hq1.size)) Off.nil) (hoxa.le ((Le.drew w7).trans hl29))
       have hk28 := hq10.ow (Off.cons (Ow.ne_new ho9 (Nat.lt_of_lt_of_le (bk_lt hb4) (Nat.le_trans hq1.size (Nat.le_trans hl10.size (Le.drew w7).size)))) Off.nil) hk25
       have hk29 := hq10.ow (Off.cons (Ow.ne_new ho10 (Nat.lt_of_lt_of_le (bk_lt hb4) (Nat.le_trans hq1.size (Nat.le_trans hl10.size (Le.drew w7).size)))) Off.nil) ho10
       refine LP rfl rfl rfl (xfa fa26_5 rfl) ?_
       refine LUt rfl rfl (xsb sz24 hb22 rfl rfl hk29.rd.sh.cells rfl rfl (al_cons hk29.rd.sh.one al_nil)) ?_
       rintro w36 ⟨hq11, hb23⟩
       dsimp only [put] at hb23
       have hk30 := hq11.ow (Off.cons (Ow.ne_new hoxc (Nat.lt_of_lt_of_le (bk_lt hb4) hq1.size)) Off.nil) hk26
       have hk31 := hq11.ow (Off.cons (Ow.ne_new hoxa (Nat.lt_of_lt_of_le (bk_lt hb4) hq1.size)) Off.nil) hk27
       have hk32 := hq11.ow (Off.cons (Ow.ne_new ho9 (Nat.lt_of_lt_of_le (bk_lt hb4) (Nat.le_trans hq1.size (Nat.le_trans hl10.size (Le.drew w7).size)))) Off.nil) hk28
       have hk33 := hq11.ow (Off.cons (Ow.ne_new ho10 (Nat.lt_of_lt_of_le (bk_lt hb4) (Nat.le_trans hq1.size (Nat.le_trans hl10.size (Le.drew w7).size)))) Off.nil) hk29
       refine LZ ?_
       have lx17 : Lx [b4] w7 w33 := (hg9.lx.drop (Lx.trans (Lx.trans (Lx.trans (Lx.refl _ _) (Le.drew w7).lx) hl23.lx) hl27.lx) (dr_row (hr6.le hl27) (Le.drew w7).size))
       have lx18 : Lx [b4] w7 w34 := (hg10.lx.drop lx17 (dr_row hk24 (Nat.le_trans (Le.drew w7).size hl23.size)))
       have lx19 : Lx [b4] w7 w35 := (hq10.drop lx18 (dr_in (by simp) dr_nil))
       have lx20 : Lx [b4] w7 w36 := (hq11.drop lx19 (dr_in (by simp) dr_nil))
       exact F_cutx ⟨_, _⟩ ⟨lx20, hb23, (by simpa using (hk32).base (Le.drew w7).size), (by simpa using (hk33).base (Le.drew w7).size)⟩ (lk_loop (vs0 := []) 10 rfl rfl hvn)
     ·
      refine LT rfl rfl rfl (xbs rfl (bs24_0 ())) ?_
      rintro _ w37 ⟨b13, rfl, hl30, hb24, hb24z⟩
      refine ⟨((Le.drew w7).trans hl30), ?_⟩
      have hr9 : Ow w37 w7.drew 40 KeyE _ [] := Ow.of_bk hb24 rfl hb24z (Nat.le_of_ble_eq_true rfl)
      refine LT rfl rfl rfl (xbs rfl (bs24_0 ())) ?_
      rintro _ w38 ⟨b14, rfl, hl31, hb25, hb25z⟩
      refine ⟨((Le.drew w7).trans (hl30.trans hl31)), ?_⟩
      have hr10 : Ow w38 w37 40 KeyE _ [] := Ow.of_bk hb25 rfl hb25z (Nat.le_of_ble_eq_true rfl)
      have le11 : Le w w6 := (hq1.le (hl1.trans (hl3.trans (hl4.trans (hl6.trans (hl7.trans (hl8.trans hl9)))))) (inc (Nat.le_trans hl1.size (Nat.le_trans hl3.size (Nat.le_trans hl4.size (Nat.le_trans hl6.size (Nat.le_trans hl7.size hl8.size))))) hb4z inn))
      have le12 : Le w w7 := (hl10.le le11 (inc (Nat.le_trans hl1.size (Nat.le_trans hl3.size (Nat.le_trans hl4.size (Nat.le_trans hl6.size (Nat.le_trans hl7.size hl8.size))))) hb4z inn))
      refine LT rfl rfl rfl (xapp (E := KeyE) un24 el40 sz40 rfl hr10 (RdE.le (le12.trans ((Le.drew w7).trans (hl30.trans hl31))) htr) hl31 (by simp only [List.length_append, List.length_take, List.length_drop, List.length_cons, List.length_nil, maxLen]; omega) (by simp only [List.length_append, List.length_take, List.length_drop, List.length_cons, List.length_nil, maxLen]; omega) rfl rfl) ?_
      rintro v12 w39 ⟨hl32, ho11, hg11⟩
      refine ⟨((Le.drew w7).trans (hl30.trans hl32)), ?_⟩
      refine LP rfl rfl rfl (xfa fa26_4 rfl) ?_
      refine LTt rfl rfl rfl (xapp (E := KeyE) un24 el40 sz40 rfl (hr9.le hl32) (RdE.le (le12.trans ((Le.drew w7).trans (hl30.trans hl32))) htw) (hl30.trans hl32) (by simp only [List.length_append, List.length_take, List.length_drop, List.length_cons, List.length_nil, maxLen]; omega) (by simp only [List.length_append, List.length_take, List.length_drop, List.length_cons, List.length_nil, maxLen]; omega) rfl rfl) ?_
      rintro v13 w40 ⟨hl33, ho12, hg12⟩
      have hk34 := hg12.lx.ow (Ow.off_new ho11 hr9 (Nat.le_refl _)) ho11
      have hof6 := Apd.off hg12 (Ow.off_old hr9 ho11 (Nat.le_refl _)) (fun i hi => Nat.lt_of_lt_of_le (Ow.lt ho11 i hi) (Nat.le_refl _))
      refine LUt rfl rfl (xsb sz24 (Le.bk ((Le.drew w7).trans hl33) hbmxc) rfl rfl hk34.rd.sh.cells rfl rfl (al_cons hk34.rd.sh.one al_nil)) ?_
      rintro w41 ⟨hq12, hb26⟩
      dsimp only [put] at hb26
      have hk35 := hq12.ow (Off.cons (Ow.ne_new hoxc (Nat.lt_of_lt_of_le (bk_lt hb4) hq1.size)) Off.nil) (hoxc.le ((Le.drew w7).trans hl33))
      have hk36 := hq12.ow (Off.cons (Ow.ne_new hoxa (Nat.lt_of_lt_of_le (bk_lt hb4) hq1.size)) Off.nil) (hoxa.le ((Le.drew w7).trans hl33))
      have hk37 := hq12.ow (Off.cons (Ow.ne_new ho11 (Nat.lt_of_lt_of_le (bk_lt hb4) (Nat.le_trans hq1.size (Nat.le_trans hl10.size (Nat.le_trans (Le.drew w7).size hl30.size))))) Off.nil) hk34
      have hk38 := hq12.ow (Off.cons (Ow.ne_new ho12 (Nat.lt_of_lt_of_le (bk_lt hb4) (Nat.le_trans hq1.size (Nat.le_trans hl10.size (Le.drew w7).size)))) Off.nil) ho12
      refine LP rfl rfl rfl (xfa fa26_5 rfl) ?_
      refine LUt rfl rfl (xsb sz24 hb26 rfl rfl hk38.rd.sh.cells rfl rfl (al_cons hk38.rd.sh.one al_nil)) ?_
      rintro w42 ⟨hq13, hb27⟩
      dsimp only [put] at hb27
      have hk39 := hq13.ow (Off.cons (Ow.ne_new hoxc (Nat.lt_of_lt_of_le (bk_lt hb4) hq1.size)) Off.nil) hk35
      have hk40 := hq13.ow (Off.cons (Ow.ne_new hoxa (Nat.lt_of_lt_of_le (bk_lt hb4) hq1.size)) Off.nil) hk36
      have hk41 := hq13.ow (Off.cons (Ow.ne_new ho11 (Nat.lt_of_lt_of_le (bk_lt hb4) (Nat.le_trans hq1.size (Nat.le_trans hl10.size (Nat.le_trans (Le.drew w7).size hl30.size))))) Off.nil) hk37
      have hk42 := hq13.ow (Off.cons (Ow.ne_new ho12 (Nat.lt_of_lt_of_le (bk_lt hb4) (Nat.le_trans hq1.size (Nat.le_trans hl10.size (Le.drew w7).size)))) Off.nil) hk38
      refine LZ ?_
      have lx21 : Lx [b4] w7 w39 := (hg11.lx.drop (Lx.trans (Lx.trans (Lx.trans (Lx.refl _ _) (Le.drew w7).lx) hl30.lx) hl31.lx) (dr_row hr10 (Nat.le_trans (Le.drew w7).size hl30.size)))
      have lx22 : Lx [b4] w7 w40 := (hg12.lx.drop lx21 (dr_row (hr9.le hl32) (Le.drew w7).size))
      have lx23 : Lx [b4] w7 w41 := (hq12.drop lx22 (dr_in (by simp) dr_nil))
      have lx24 : Lx [b4] w7 w42 := (hq13.drop lx23 (dr_in (by simp) dr_nil))
      exact F_cutx ⟨_, _⟩ ⟨lx24, hb27, (by simpa using (hk41).base (Nat.le_trans (Le.drew w7).size hl30.size)), (by simpa using (hk42).base (Le.drew w7).size)⟩ (lk_loop (vs0 := []) 10 rfl rfl hvn)
    ·
     rintro ⟨xr, xw⟩ w25 ⟨hl22, hbmxr, hoxr, hoxw⟩
     show W _ _ _ _ _ ([] ++ _) _
     have hk43 := hl22.ow (Off.cons (Ow.ne_new hoxc (Nat.lt_of_lt_of_le (bk_lt hb4) hq1.size)) Off.nil) hoxc
     have hk44 := hl22.ow (Off.cons (Ow.ne_new hoxa (Nat.lt_of_lt_of_le (bk_lt hb4) hq1.size)) Off.nil) hoxa
     refine W_seq ?_
     refine W_reg (.pure 0 (.one 1 (.one 2 (.pure 3 (.pure 4 (.pure 5 (.one 6 (.one 7 (.pure 8 .nil))))))))) rfl ?_
     refine LP rfl rfl rfl (xmv rfl) ?_
     refine LX rfl rfl rfl (xlb6 ag26 hbmxr rfl rfl rfl rfl rfl rfl rfl) trivial ?_
     obtain ⟨S, hSd⟩ : ∃ S, S = [b2, b3] ++ blks4 xc xa xr xw := ⟨_, rfl⟩
     have hmc : b2 ∈ S := by rw [hSd]; simp
     have hmw : b3 ∈ S := by rw [hSd]; simp
     have hS : ∀ i ∈ S, i < w25.heap.size := by rw [hSd]; exact lt_app (lt_cons (Nat.lt_of_lt_of_le (bk_lt hb2) (Nat.le_trans hl6.size (Nat.le_trans hl7.size (Nat.le_trans hl8.size (Nat.le_trans hl9.size (Nat.le_trans hq1.size (Nat.le_trans hl10.size hl22.size))))))) (lt_cons (Nat.lt_of_lt_of_le (bk_lt hb3) (Nat.le_trans hl8.size (Nat.le_trans hl9.size (Nat.le_trans hq1.size (Nat.le_trans hl10.size hl22.size))))) lt_nil)) (blks4_lt (Ow.lt hk43) (Ow.lt hk44) (Ow.lt hoxr) (Ow.lt hoxw))
     have hSge : ∀ i ∈ S, w.heap.size ≤ i := by rw [hSd]; exact ge_app (inc (Nat.le_trans hl1.size hl3.size) hz1 (inc (Nat.le_trans hl1.size (Nat.le_trans hl3.size (Nat.le_trans hl4.size hl6.size))) hz2 inn)) (blks4_ge (Ow.since hk43 (Nat.le_trans hl1.size (Nat.le_trans hl3.size (Nat.le_trans hl4.size (Nat.le_trans hl6.size (Nat.le_trans hl7.size (Nat.le_trans hl8.size (Nat.le_trans hl9.size hq1.size)))))))) (Ow.since hk44 (Nat.le_trans hl1.size (Nat.le_trans hl3.size (Nat.le_trans hl4.size (Nat.le_trans hl6.size (Nat.le_trans hl7.size (Nat.le_trans hl8.size (Nat.le_trans hl9.size hq1.size)))))))) (Ow.since hoxr (Nat.le_trans hl1.size (Nat.le_trans hl3.size (Nat.le_trans hl4.size (Nat.le_trans hl6.size (Nat.le_trans hl7.size (Nat.le_trans hl8.size (Nat.le_trans hl9.size (Nat.le_trans hq1.size hl10.size))))))))) (Ow.since hoxw (Nat.le_trans hl1.size (Nat.le_trans hl3.size (Nat.le_trans hl4.size (Nat.le_trans hl6.size (Nat.le_trans hl7.size (Nat.le_trans hl8.size (Nat.le_trans hl9.size (Nat.le_trans hq1.size hl10.size))))))))))
     have hmxc : ∀ i ∈ xc.ownBlock.toList, i ∈ S := fun i hi => by rw [hSd]; exact List.mem_append_right _ (blks4_1 i hi)
     have hmxr : ∀ i ∈ xr.ownBlock.toList, i ∈ S := fun i hi => by rw [hSd]; exact List.mem_append_right _ (blks4_3 i hi)
     have le13 : Le w2 w6 := (hq1.le (hl6.trans (hl7.trans (hl8.trans hl9))) (inc (Nat.le_trans hl6.size (Nat.le_trans hl7.size hl8.size)) hb4z inn))
     have le14 : Le w2 w7 := (hl10.le le13 (inc (Nat.le_trans hl6.size (Nat.le_trans hl7.size hl8.size)) hb4z inn))
     have le15 : Le w2 w25 := (hl22.le le14 (inc (Nat.le_trans hl6.size (Nat.le_trans hl7.size hl8.size)) hb4z inn))
     refine LF rfl rfl rfl has17_C9 rfl (c_submit (S := ([b1, b4] ++ S)) (⟨_, _, _, _, _, (Le.bk le15 hb2), (RdX.nil _ _ _), (RdX.nil _ _ _), (RdX.nil _ _ _), (RdX.nil _ _ _), (RdX.nil _ _ _)⟩ : Cl ([b1, b4] ++ S) w25 116 b2 (newC 2 2)) (newC_ok (se := 2) (reps := 2) rfl) (List.mem_append_right _ hmc) (lt_app (lt_cons (Nat.lt_of_lt_of_le (bk_lt hb1) (Nat.le_trans hl3.size (Nat.le_trans hl4.size (Nat.le_trans hl6.size (Nat.le_trans hl7.size (Nat.le_trans hl8.size (Nat.le_trans hl9.size (Nat.le_trans hq1.size (Nat.le_trans hl10.size hl22.size))))))))) (lt_cons (Nat.lt_of_lt_of_le (bk_lt hb4) (Nat.le_trans hq1.size (Nat.le_trans hl10.size hl22.size))) lt_nil)) (lt_le hS (Nat.le_refl _))) (t := ⟨t.se, t.rq, t.code, t.args, t.reads, t.writes⟩) (rep := (0 : Int)) hk43.rd hk44.rd hoxr.rd hoxw.rd hsm hB) ?_
     rintro _ w43 (⟨qne1, rfl, qle1⟩ | ⟨qeq1, qxc1, qxa1, qxr1, qxw1, rfl, qlx1, qcl1, qoc1, qoa1, qor1, qow1, qof1⟩)
     ·
      refine ⟨trivial, ?_⟩
      refine LP rfl rfl rfl (xmv rfl) ?_
      refine LP rfl rfl rfl (xext rfl rfl) ?_
      refine LP rfl rfl rfl (xext rfl rfl) ?_
      refine LT rfl rfl rfl (xal zr36) ?_
      rintro _ w44 ⟨b15, rfl, hl34, hb28, hb28z⟩
      refine ⟨trivial, ?_⟩
      refine LU rfl rfl (xsb sz36 hb28 rfl rfl (agg_cells _) rfl rfl (al_cons rfl (al_cons rfl (al_cons rfl (al_cons rfl (al_cons rfl (al_cons rfl (al_cons rfl (al_cons rfl (al_cons rfl (al_cons rfl al_nil))))))))))) ?_
      rintro w45 ⟨hq14, hb29⟩
      dsimp only [put] at hb29
      refine ⟨trivial, ?_⟩
      refine LP rfl rfl rfl (xas rfl) ?_
      refine LZ ?_
      refine F_seq ?_
      refine W_seq ?_
      refine W_seq ?_
      refine W_reg (.pure 0 (.one 1 (.one 2 (.pure 3 (.pure 4 (.pure 5 (.one 6 (.one 7 (.pure 8 .nil))))))))) rfl ?_
      refine LP rfl rfl rfl (xmv rfl) ?_
      have le16 : Le w1 w6 := (hq1.le (hl3.trans (hl4.trans (hl6.trans (hl7.trans (hl8.trans hl9))))) (inc (Nat.le_trans hl3.size (Nat.le_trans hl4.size (Nat.le_trans hl6.size (Nat.le_trans hl7.size hl8.size)))) hb4z inn))
      have le17 : Le w1 w7 := (hl10.le le16 (inc (Nat.le_trans hl3.size (Nat.le_trans hl4.size (Nat.le_trans hl6.size (Nat.le_trans hl7.size hl8.size)))) hb4z inn))
      have le18 : Le w1 w25 := (hl22.le le17 (inc (Nat.le_trans hl3.size (Nat.le_trans hl4.size (Nat.le_trans hl6.size (Nat.le_trans hl7.size hl8.size)))) hb4z inn))
      have le19 : Le w1 w45 := (hq14.le (le18.trans (qle1.trans hl34)) (inc (Nat.le_trans hl3.size (Nat.le_trans hl4.size (Nat.le_trans hl6.size (Nat.le_trans hl7.size (Nat.le_trans hl8.size (Nat.le_trans hl9.size (Nat.le_trans hq1.size (Nat.le_trans hl10.size (Nat.le_trans hl22.size qle1.size))))))))) hb28z inn))
      refine LX rfl rfl rfl (xlb6 ag26 (Le.bk le19 hb1) rfl rfl rfl rfl rfl rfl rfl) trivial ?_
      have le20 : Le w3 w6 := (hq1.le (hl8.trans hl9) (inc hl8.size hb4z inn))
      have le21 : Le w3 w7 := (hl10.le le20 (inc hl8.size hb4z inn))
      have le22 : Le w3 w25 := (hl22.le le21 (inc hl8.size hb4z inn))
      have le23 : Le w3 w45 := (hq14.le (le22.trans (qle1.trans hl34)) (inc (Nat.le_trans hl8.size (Nat.le_trans hl9.size (Nat.le_trans hq1.size (Nat.le_trans hl10.size (Nat.le_trans hl22.size qle1.size))))) hb28z inn))
      have le24 : Le w w6 := (hq1.le (hl1.trans (hl3.trans (hl4.trans (hl6.trans (hl7.trans (hl8.trans hl9)))))) (inc (Nat.le_trans hl1.size (Nat.le_trans hl3.size (Nat.le_trans hl4.size (Nat.le_trans hl6.size (Nat.le_trans hl7.size hl8.size))))) hb4z inn))
      have le25 : Le w w7 := (hl10.le le24 (inc (Nat.le_trans hl1.size (Nat.le_trans hl3.size (Nat.le_trans hl4.size (Nat.le_trans hl6.size (Nat.le_trans hl7.size hl8.size))))) hb4z inn))
      have le26 : Le w w25 := (hl22.le le25 (inc (Nat.le_trans hl1.size (Nat.le_trans hl3.size (Nat.le_trans hl4.size (Nat.le_trans hl6.size (Nat.le_trans hl7.size hl8.size))))) hb4z inn))
      have le27 : Le w w45 := (hq14.le (le26.trans (qle1.trans hl34)) (inc (Nat.le_trans hl1.size (Nat.le_trans hl3.size (Nat.le_trans hl4.size (Nat.le_trans hl6.size (Nat.le_trans hl7.size (Nat.le_trans hl8.size (Nat.le_trans hl9.size (Nat.le_trans hq1.size (Nat.le_trans hl10.size (Nat.le_trans hl22.size qle1.size)))))))))) hb28z inn))
      refine LF rfl rfl rfl has18_D1 rfl (r_submit (S := ([b1, b15, b4] ++ S)) (⟨_, _, _, _, _, (Le.bk le23 hb3), (RdX.nil _ _ _), (RdX.nil _ _ _), (RdX.nil _ _ _), (RdX.nil _ _ _), (RdX.nil _ _ _)⟩ : Cl ([b1, b15, b4] ++ S) w45 118 b3 (newC 2 2)) (newC_ok (se := 2) (reps := 2) rfl) (List.mem_append_right _ hmw) (lt_app (lt_cons (Nat.lt_of_lt_of_le (bk_lt hb1) (Nat.le_trans hl3.size (Nat.le_trans hl4.size (Nat.le_trans hl6.size (Nat.le_trans hl7.size (Nat.le_trans hl8.size (Nat.le_trans hl9.size (Nat.le_trans hq1.size (Nat.le_trans hl10.size (Nat.le_trans hl22.size (Nat.le_trans qle1.size (Nat.le_trans hl34.size hq14.size)))))))))))) (lt_cons (Nat.lt_of_lt_of_le (bk_lt hb28) hq14.size) (lt_cons (Nat.lt_of_lt_of_le (bk_lt hb4) (Nat.le_trans hq1.size (Nat.le_trans hl10.size (Nat.le_trans hl22.size (Nat.le_trans qle1.size (Nat.le_trans hl34.size hq14.size)))))) lt_nil))) (lt_le hS (Nat.le_trans qle1.size (Nat.le_trans hl34.size hq14.size)))) (t := ⟨t.se, t.rq, t.code, t.args, t.reads, t.writes⟩) (rep := (0 : Int)) (RdX.of_le htc rfl le27 (ge_app (inc (Nat.le_refl _) hb1z (inc (Nat.le_trans hl1.size (Nat.le_trans hl3.size (Nat.le_trans hl4.size (Nat.le_trans hl6.size (Nat.le_trans hl7.size (Nat.le_trans hl8.size (Nat.le_trans hl9.size (Nat.le_trans hq1.size (Nat.le_trans hl10.size (Nat.le_trans hl22.size qle1.size)))))))))) hb28z (inc (Nat.le_trans hl1.size (Nat.le_trans hl3.size (Nat.le_trans hl4.size (Nat.le_trans hl6.size (Nat.le_trans hl7.size hl8.size))))) hb4z inn))) hSge)) (RdX.of_le hta rfl le27 (ge_app (inc (Nat.le_refl _) hb1z (inc (Nat.le_trans hl1.size (Nat.le_trans hl3.size (Nat.le_trans hl4.size (Nat.le_trans hl6.size (Nat.le_trans hl7.size (Nat.le_trans hl8.size (Nat.le_trans hl9.size (Nat.le_trans hq1.size (Nat.le_trans hl10.size (Nat.le_trans hl22.size qle1.size)))))))))) hb28z (inc (Nat.le_trans hl1.size (Nat.le_trans hl3.size (Nat.le_trans hl4.size (Nat.le_trans hl6.size (Nat.le_trans hl7.size hl8.size))))) hb4z inn))) hSge)) (RdX.of_le htr rfl le27 (ge_app (inc (Nat.le_refl _) hb1z (inc (Nat.le_trans hl1.size (Nat.le_trans hl3.size (Nat.le_trans hl4.size (Nat.le_trans hl6.size (Nat.le_trans hl7.size (Nat.le_trans hl8.size (Nat.le_trans hl9.size (Nat.le_trans hq1.size (Nat.le_trans hl10.size (Nat.le_trans hl22.size qle1.size)))))))))) hb28z (inc (Nat.le_trans hl1.size (Nat.le_trans hl3.size (Nat.le_trans hl4.size (Nat.le_trans hl6.size (Nat.le_trans hl7.size hl8.size))))) hb4z inn))) hSge)) (RdX.of_le htw rfl le27 (ge_app (inc (Nat.le_refl _) hb1z (inc (Nat.le_trans hl1.size (Nat.le_trans hl3.size (Nat.le_trans hl4.size (Nat.le_trans hl6.size (Nat.le_trans hl7.size (Nat.le_trans hl8.size (Nat.le_trans hl9.size (Nat.le_trans hq1.size (Nat.le_trans hl10.size (Nat.le_trans hl22.size qle1.size)))))))))) hb28z (inc (Nat.le_trans hl1.size (Nat.le_trans hl3.size (Nat.le_trans hl4.size (Nat.le_trans hl6.size (Nat.le_trans hl7.size hl8.size))))) hb4z inn))) hSge)) hsm hB) ?_
      rintro _ w46 (⟨qne2, rfl, qle2⟩ | ⟨qeq2, qxr2, qxw2, rfl, qlx2, qcl2, qor2, qow2⟩)
      ·
       refine ⟨trivial, ?_⟩
       refine LP rfl rfl rfl (xmv rfl) ?_
       refine LP rfl rfl rfl (xext rfl rfl) ?_
       refine LP rfl rfl rfl (xext rfl rfl) ?_
       refine LT rfl rfl rfl (xal zr36) ?_
       rintro _ w47 ⟨b16, rfl, hl35, hb30, hb30z⟩
       refine ⟨trivial, ?_⟩
       refine LU rfl rfl (xsb sz36 hb30 rfl rfl (agg_cells _) rfl rfl (al_cons rfl (al_cons rfl (al_cons rfl (al_cons rfl (al_cons rfl (al_cons rfl (al_cons rfl (al_cons rfl (al_cons rfl (al_cons rfl al_nil))))))))))) ?_
       rintro w48 ⟨hq15, hb31⟩
       dsimp only [put] at hb31
       refine ⟨trivial, ?_⟩
       refine LP rfl rfl rfl (xas rfl) ?_
       refine LZ ?_
       refine F_seq ?_
       refine W_seq ?_
       refine W_reg (.pure 0 (.pure 1 (.pure 2 .nil))) rfl ?_
       refine LP rfl rfl rfl (xmv rfl) ?_
       refine LP rfl rfl rfl (xmv rfl) ?_
       refine LP rfl rfl rfl (xneq rfl rfl) ?_
       refine L_is 68 (v := .bool false) rfl (by simp) ?_
       refine LZ ?_
       refine F_seq ?_
       refine W_else rfl ?_
       refine W_skip ?_
       refine F_seq ?_
       refine W_seq ?_
       refine W_seq ?_
       refine W_reg (.pure 0 (.one 1 (.pure 2 (.pure 3 .nil)))) rfl ?_
       refine LP rfl rfl rfl (xfa fa26_2 rfl) ?_
       have le28 : Le w25 w45 := (hq14.le (qle1.trans hl34) (inc qle1.size hb28z inn))
       have le29 : Le w25 w48 := (hq15.le (le28.trans (qle2.trans hl35)) (inc (Nat.le_trans qle1.size (Nat.le_trans hl34.size (Nat.le_trans hq14.size qle2.size))) hb30z inn))
       refine LX rfl rfl rfl (xld sc22 rfl (cl_bk (Le.bk le29 hbmxr) rfl)) trivial ?_
       refine LP rfl rfl rfl (xlen un22 hk43.rd.sh rfl) ?_
       refine LP rfl rfl rfl (xmv rfl) ?_
       refine LZ ?_
       refine F_seq ?_
       refine W_block ?_
       have hb72 := ((hk43.le le29)).rd.sh.le
       refine W_loopv (ι := Nat × (List Int)) (fun ⟨k, rr1⟩ => [(72, .int .i64 (k : Int))]) (fun ⟨k, rr1⟩ w' => Lx xc.ownBlock.toList w48 w' ∧ k ≤ t.code.length ∧ rr1.length = t.code.length ∧ Ow w' w6 5 ByteE xc rr1) (fun ⟨k, rr1⟩ => t.code.length - k) ⟨0, t.code⟩ (hvc rfl hvn) ⟨Lx.refl _ _, Nat.zero_le _, rfl, (hk43.le le29)⟩ ?_
       rintro ⟨k, rr1⟩ w49 ⟨hl36, hk, hlrr1, horr1⟩
       show W _ _ _ _ _ ([(72, .int .i64 (k : Int))] ++ _) _
       have hk45 := hl36.bk (Ow.ni_old (hk43.le le29) (Nat.lt_of_lt_of_le (bk_lt hb4) hq1.size)) (Le.bk le29 hbmxr)
       have hk46 := hl36.ow (Ow.off_new hoxr hoxc (Nat.le_refl _)) (hoxr.le le29)
       have hk47 := hl36.ow (Ow.off_new hoxw hoxc (Nat.le_refl _)) (hoxw.le le29)
       have le30 : Le w45 w48 := (hq15.le (qle2.trans hl35) (inc qle2.size hb30z inn))
       have hk48 := hl36.bk (Ow.ni_new hoxc hb28z (Nat.le_trans hl22.size qle1.size)) (Le.bk le30 hb29)
       have hk49 := hl36.bk (Ow.ni_new hoxc hb30z (Nat.le_trans hl22.size (Nat.le_trans qle1.size (Nat.le_trans hl34.size (Nat.le_trans hq14.size qle2.size))))) hb31
       refine W_seq ?_
       refine W_reg (.pure 0 .nil) rfl ?_
       refine LP rfl rfl rfl (xlss rfl rfl) ?_
       refine LZ ?_
       refine F_seq ?_
       refine W_seq ?_
       refine W_cond rfl (fun c3 => ?_) (fun c3 => ?_)
       · -- c3 yes
        replace c3 := of_decide_eq_true c3
        refine W_skip ?_
        refine F_seq ?_
        refine W_seq ?_
        refine W_block ?_
        refine W_seq ?_
        refine W_reg (.pure 0 (.pure 1 .nil)) rfl ?_
        refine LP rfl rfl rfl (xmv rfl) ?_
        refine LP rfl rfl rfl (xas rfl) ?_
        refine LZ ?_
        refine F_seq ?_
        refine W_reg (.pure 0 (.one 1 (.pure 2 (.pure 3 (.one 4 .nil))))) rfl ?_
        refine LP rfl rfl rfl (xfa fa26_2 rfl) ?_
        refine LX rfl rfl rfl (xld sc22 rfl (cl_bk hk45 rfl)) trivial ?_
        refine LP rfl rfl rfl (xmv rfl) ?_
        obtain ⟨x1, hx1⟩ : ∃ x, rr1[k]? = some x := ⟨_, List.getElem?_eq_getElem (by omega)⟩
        refine LP rfl rfl rfl (xix k un22 sz5 horr1.rd.sh rfl rfl (by omega) (by omega)) ?_
        refine LU rfl rfl (xst sz5 horr1 (by first | omega | (simp only [List.length_append, List.length_take, List.length_drop, List.length_cons, List.length_nil, List.length_set, List.length_replicate, maxLen]; omega)) rfl rfl rfl rfl) ?_
        rintro w50 ⟨hq16, ho13⟩
        have hk50 := hq16.bk (Ow.ni_old horr1 (Nat.lt_of_lt_of_le (bk_lt hb4) hq1.size)) hk45
        have hk51 := hq16.ow (Ow.off_new hoxr hoxc (Nat.le_refl _)) hk46
        have hk52 := hq16.ow (Ow.off_new hoxw hoxc (Nat.le_refl _)) hk47
        have hk53 := hq16.bk (Ow.ni_new hoxc hb28z (Nat.le_trans hl22.size qle1.size)) hk48
        have hk54 := hq16.bk (Ow.ni_new hoxc hb30z (Nat.le_trans hl22.size (Nat.le_trans qle1.size (Nat.le_trans hl34.size (Nat.le_trans hq14.size qle2.size))))) hk49
        refine ⟨trivial, ?_⟩
        refine LZ ?_
        refine F_block ?_
        refine F_seq ?_
        refine W_reg (.pure 0 (.pure 1 .nil)) rfl ?_
        refine LP rfl rfl rfl (xaddn rfl rfl (by omega)) ?_
        refine LP rfl rfl rfl (xmv rfl) ?_
        refine LZ ?_
        exact F_roundv ⟨k + 1, _⟩ ⟨(Lx.drop hq16 (Lx.drop hl36 (Lx.refl _ _) dr_self) dr_self), by omega, by rw [List.length_set]; exact hlrr1, ho13⟩ (by (try dsimp only); omega) (lk_loop 9 rfl rfl (hvc rfl hvn))
       · -- c3 no
        replace c3 := of_decide_eq_false c3
        refine W_exit ?_
        refine F_exit_then ?_
        refine F_exit_then ?_
        refine F_exit_here ?_
        refine F_seq ?_
        refine W_seq ?_
        refine W_seq ?_
        refine W_reg (.pure 0 (.one 1 (.pure 2 (.pure 3 .nil)))) rfl ?_
        refine LP rfl rfl rfl (xfa fa26_4 rfl) ?_
        refine LX rfl rfl rfl (xld sc24 rfl (cl_bk hk45 rfl)) trivial ?_
        refine LP rfl rfl rfl (xlen un24 hk46.rd.sh rfl) ?_
        refine LP rfl rfl rfl (xmv rfl) ?_
        refine LZ ?_
        refine F_seq ?_
        refine W_block ?_
        have hb83 := (hk46).rd.sh.le
        refine W_loopv (ι := Nat × (List Key)) (fun ⟨k, rr2⟩ => [(83, .int .i64 (k : Int))]) (fun ⟨k, rr2⟩ w' => Lx xr.ownBlock.toList w49 w' ∧ k ≤ t.reads.length ∧ rr2.length = t.reads.length ∧ Ow w' w7 40 KeyE xr rr2) (fun ⟨k, rr2⟩ => t.reads.length - k) ⟨0, t.reads⟩ (hvc rfl hvn) ⟨Lx.refl _ _, Nat.zero_le _, rfl, hk46⟩ ?_
        rintro ⟨k, rr2⟩ w51 ⟨hl37, hk, hlrr2, horr2⟩
        show W _ _ _ _ _ ([(83, .int .i64 (k : Int))] ++ _) _
        have hk55 := hl37.bk (Ow.ni_old hk46 (Nat.lt_of_lt_of_le (bk_lt hb4) (Nat.le_trans hq1.size hl10.size))) hk45
        have hk56 := hl37.ow (Ow.off_old hoxc hk46 (Nat.le_refl _)) horr1
        have hk57 := hl37.bk (Ow.ni_new hoxr hb28z qle1.size) hk48
        have hk58 := hl37.bk (Ow.ni_new hoxr hb30z (Nat.le_trans qle1.size (Nat.le_trans hl34.size (Nat.le_trans hq14.size qle2.size)))) hk49
        refine W_seq ?_
        refine W_reg (.pure 0 .nil) rfl ?_
        refine LP rfl rfl rfl (xlss rfl rfl) ?_
        refine LZ ?_
        refine F_seq ?_
        refine W_seq ?_
        refine W_cond rfl (fun c4 => ?_) (fun c4 => ?_)
        · -- c4 yes
         replace c4 := of_decide_eq_true c4
         refine W_skip ?_
         refine F_seq ?_
         refine W_seq ?_
         refine W_block ?_
         refine W_seq ?_
         refine W_reg (.pure 0 (.pure 1 .nil)) rfl ?_
         refine LP rfl rfl rfl (xmv rfl) ?_
         refine LP rfl rfl rfl (xas rfl) ?_
         refine LZ ?_
         refine F_seq ?_
         refine W_reg (.pure 0 (.one 1 (.pure 2 (.pure 3 (.pure 4 (.one 5 .nil)))))) rfl ?_
         refine LP rfl rfl rfl (xfa fa26_4 rfl) ?_
         refine LX rfl rfl rfl (xld sc24 rfl (cl_bk hk55 rfl)) trivial ?_
         refine LP rfl rfl rfl (xmv rfl) ?_
         obtain ⟨x2, hx2⟩ : ∃ x, rr2[k]? = some x := ⟨_, List.getElem?_eq_getElem (by omega)⟩
         refine LP rfl rfl rfl (xix k un24 sz40 horr2.rd.sh rfl rfl (by omega) (by omega)) ?_
         refine LP rfl rfl rfl (xfa fa40_1 rfl) ?_
         refine LU rfl rfl (xste (z := (x2.1, -9)) sz2 rfl horr2 hx2 rfl rfl (by decide) rfl rfl) ?_
         rintro w52 ⟨hq17, ho14⟩
         have hk59 := hq17.bk (Ow.ni_old horr2 (Nat.lt_of_lt_of_le (bk_lt hb4) (Nat.le_trans hq1.size hl10.size))) hk55
         have hk60 := hq17.ow (Ow.off_old hoxc horr2 (Nat.le_refl _)) hk56
         have hk61 := hq17.bk (Ow.ni_new hoxr hb28z qle1.size) hk57
         have hk62 := hq17.bk (Ow.ni_new hoxr hb30z (Nat.le_trans qle1.size (Nat.le_trans hl34.size (Nat.le_trans hq14.size qle2.size)))) hk58
         refine ⟨trivial, ?_⟩
         refine LZ ?_
         refine F_block ?_
         refine F_seq ?_
         refine W_reg (.pure 0 (.pure 1 .nil)) rfl ?_
         refine LP rfl rfl rfl (xaddn rfl rfl (by omega)) ?_
         refine LP rfl rfl rfl (xmv rfl) ?_
         refine LZ ?_
         exact F_roundv ⟨k + 1, _⟩ ⟨(Lx.drop hq17 (Lx.drop hl37 (Lx.refl _ _) dr_self) dr_self), by omega, by rw [List.length_set]; exact hlrr2, ho14⟩ (by (try dsimp only); omega) (lk_loop 10 rfl rfl (hvc rfl hvn))
        · -- c4 no
         replace c4 := of_decide_eq_false c4
         refine W_exit ?_
         refine F_exit_then ?_
         refine F_exit_then ?_
         refine F_exit_here ?_
         refine F_seq ?_
         refine W_seq ?_
         refine W_seq ?_
         refine W_reg (.pure 0 (.pure 1 (.one 2 (.pure 3 (.pure 4 .nil))))) rfl ?_
         refine LP rfl rfl rfl (xfa fa36_1 rfl) ?_
         refine LP rfl rfl rfl (xfa fa26_2 rfl) ?_
         refine LX rfl rfl rfl (xld sc22 rfl (cl_bk hk57 rfl)) trivial ?_
         refine LP rfl rfl rfl (xlen un22 Sh.nil rfl) ?_
         refine LP rfl rfl rfl (xmv rfl) ?_
         refine LZ ?_
         refine F_seq ?_
         refine W_block ?_
         refine W_loopv (ι := Nat) (fun k => [(96, .int .i64 (k : Int))]) (fun k w' => Le w51 w' ∧ k ≤ 0) (fun k => 0) 0 (hvc rfl hvn) ⟨Le.refl _, Nat.le_refl _⟩ ?_
         rintro k w53 ⟨hl38, hk⟩
         refine W_seq ?_
         refine W_reg (.pure 0 .nil) rfl ?_
         refine LP rfl rfl rfl (xlss rfl rfl) ?_
         refine LZ ?_
         refine F_seq ?_
         refine W_seq ?_
         refine W_cond rfl (fun c5 => ?_) (fun c5 => ?_)
         · -- c5 yes
          replace c5 := of_decide_eq_true c5
          exfalso; omega
         · -- c5 no
          replace c5 := of_decide_eq_false c5
          refine W_exit ?_
          refine F_exit_then ?_
          refine F_exit_then ?_
          refine F_exit_here ?_
          refine F_seq ?_
          refine W_seq ?_
          refine W_seq ?_
          refine W_reg (.pure 0 (.pure 1 (.one 2 (.pure 3 (.pure 4 .nil))))) rfl ?_
          refine LP rfl rfl rfl (xfa fa36_1 rfl) ?_
          refine LP rfl rfl rfl (xfa fa26_5 rfl) ?_
          refine LX rfl rfl rfl (xld sc24 rfl (cl_bk (Le.bk hl38 hk57) rfl)) trivial ?_
          refine LP rfl rfl rfl (xlen un24 Sh.nil rfl) ?_
          refine LP rfl rfl rfl (xmv rfl) ?_
          refine LZ ?_
          refine F_seq ?_
          refine W_block ?_
          refine W_loopv (ι := Nat) (fun k => [(109, .int .i64 (k : Int))]) (fun k w' => Le w53 w' ∧ k ≤ 0) (fun k => 0) 0 (hvc rfl hvn) ⟨Le.refl _, Nat.le_refl _⟩ ?_
          rintro k w54 ⟨hl39, hk⟩
          refine W_seq ?_
          refine W_reg (.pure 0 .nil) rfl ?_
          refine LP rfl rfl rfl (xlss rfl rfl) ?_
          refine LZ ?_
          refine F_seq ?_
          refine W_seq ?_
          refine W_cond rfl (fun c6 => ?_) (fun c6 => ?_)
          · -- c6 yes
           replace c6 := of_decide_eq_true c6
           exfalso; omega
          · -- c6 no
           replace c6 := of_decide_eq_false c6
           refine W_exit ?_
           refine F_exit_then ?_
           refine F_exit_then ?_
           refine F_exit_here ?_
           refine F_seq ?_
           refine W_seq ?_
           refine W_reg (.pure 0 (.one 1 (.pure 2 (.pure 3 (.pure 4 (.one 5 (.one 6 (.pure 7 .nil)))))))) rfl ?_
           refine LP rfl rfl rfl (xmv rfl) ?_
           have le31 : Le w2 w45 := (hq14.le (le15.trans (qle1.trans hl34)) (inc (Nat.le_trans hl6.size (Nat.le_trans hl7.size (Nat.le_trans hl8.size (Nat.le_trans hl9.size (Nat.le_trans hq1.size (Nat.le_trans hl10.size (Nat.le_trans hl22.size qle1.size))))))) hb28z inn))
           have le32 : Le w2 w48 := (hq15.le (le31.trans (qle2.trans hl35)) (inc (Nat.le_trans hl6.size (Nat.le_trans hl7.size (Nat.le_trans hl8.size (Nat.le_trans hl9.size (Nat.le_trans hq1.size (Nat.le_trans hl10.size (Nat.le_trans hl22.size (Nat.le_trans qle1.size (Nat.le_trans hl34.size (Nat.le_trans hq14.size qle2.size)))))))))) hb30z inn))
           have le33 : Le w2 w49 := (hl36.le le32 (Ow.since (hk43.le le29) (Nat.le_trans hl6.size (Nat.le_trans hl7.size (Nat.le_trans hl8.size (Nat.le_trans hl9.size hq1.size))))))
           have le34 : Le w2 w51 := (hl37.le le33 (Ow.since hk46 (Nat.le_trans hl6.size (Nat.le_trans hl7.size (Nat.le_trans hl8.size (Nat.le_trans hl9.size (Nat.le_trans hq1.size hl10.size)))))))
           refine LF rfl rfl rfl has19_D1 rfl (c_pending (S := ([b1, b15, b16, b4] ++ S)) (⟨_, _, _, _, _, (Le.bk (le34.trans (hl38.trans hl39)) hb2), (RdX.nil _ _ _), (RdX.nil _ _ _), (RdX.nil _ _ _), (RdX.nil _ _ _), (RdX.nil _ _ _)⟩ : Cl ([b1, b15, b16, b4] ++ S) w54 116 b2 (newC 2 2)) (newC_ok (se := 2) (reps := 2) rfl) (List.mem_append_right _ hmc) (lt_app (lt_cons (Nat.lt_of_lt_of_le (bk_lt hb1) (Nat.le_trans hl3.size (Nat.le_trans hl4.size (Nat.le_trans hl6.size (Nat.le_trans hl7.size (Nat.le_trans hl8.size (Nat.le_trans hl9.size (Nat.le_trans hq1.size (Nat.le_trans hl10.size (Nat.le_trans hl22.size (Nat.le_trans qle1.size (Nat.le_trans hl34.size (Nat.le_trans hq14.size (Nat.le_trans qle2.size (Nat.le_trans hl35.size (Nat.le_trans hq15.size (Nat.le_trans hl36.size (Nat.le_trans hl37.size (Nat.le_trans hl38.size hl39.size))))))))))))))))))) (lt_cons (Nat.lt_of_lt_of_le (bk_lt hb28) (Nat.le_trans hq14.size (Nat.le_trans qle2.size (Nat.le_trans hl35.size (Nat.le_trans hq15.size (Nat.le_trans hl36.size (Nat.le_trans hl37.size (Nat.le_trans hl38.size hl39.size)))))))) (lt_cons (Nat.lt_of_lt_of_le (bk_lt hb30) (Nat.le_trans hq15.size (Nat.le_trans hl36.size (Nat.le_trans hl37.size (Nat.le_trans hl38.size hl39.size))))) (lt_cons (Nat.lt_of_lt_of_le (bk_lt hb4) (Nat.le_trans hq1.size (Nat.le_trans hl10.size (Nat.le_trans hl22.size (Nat.le_trans qle1.size (Nat.le_trans hl34.size (Nat.le_trans hq14.size (Nat.le_trans qle2.size (Nat.le_trans hl35.size (Nat.le_trans hq15.size (Nat.le_trans hl36.size (Nat.le_trans hl37.size (Nat.le_trans hl38.size hl39.size))))))))))))) lt_nil)))) (lt_le hS (Nat.le_trans qle1.size (Nat.le_trans hl34.size (Nat.le_trans hq14.size (Nat.le_trans qle2.size (Nat.le_trans hl35.size (Nat.le_trans hq15.size (Nat.le_trans hl36.size (Nat.le_trans hl37.size (Nat.le_trans hl38.size hl39.size))))))))))) ) ?_
           rintro _ w55 (⟨qf1, rfl, qle3⟩ | ⟨qf2, qxc2, qxa2, qxr3, qxw3, rfl, qle4, qoc2, qoa2, qor3, qow3⟩)
           ·
            refine ⟨trivial, ?_⟩
            refine LP rfl rfl rfl (xmv rfl) ?_
            refine LP rfl rfl rfl (xext rfl rfl) ?_
            refine LP rfl rfl rfl (xext rfl rfl) ?_
            refine LT rfl rfl rfl (xal zr26) ?_
            rintro _ w56 ⟨b17, rfl, hl40, hb32, hb32z⟩
            refine ⟨trivial, ?_⟩
            refine LU rfl rfl (xsb sz26 hb32 rfl rfl (agg_cells _) rfl rfl (al_cons rfl (al_cons rfl (al_cons rfl (al_cons rfl (al_cons rfl (al_cons rfl al_nil))))))) ?_
            rintro w57 ⟨hq18, hb33⟩
            dsimp only [put] at hb33
            refine ⟨trivial, ?_⟩
            refine LP rfl rfl rfl (xas rfl) ?_
            refine LZ ?_
            refine F_seq ?_
            refine W_seq ?_
            refine W_reg (.pure 0 (.one 1 (.pure 2 (.pure 3 (.pure 4 (.one 5 (.one 6 (.pure 7 .nil)))))))) rfl ?_
            refine LP rfl rfl rfl (xmv rfl) ?_
            have le35 : Le w3 w48 := (hq15.le (le23.trans (qle2.trans hl35)) (inc (Nat.le_trans hl8.size (Nat.le_trans hl9.size (Nat.le_trans hq1.size (Nat.le_trans hl10.size (Nat.le_trans hl22.size (Nat.le_trans qle1.size (Nat.le_trans hl34.size (Nat.le_trans hq14.size qle2.size)))))))) hb30z inn))
            have le36 : Le w3 w49 := (hl36.le le35 (Ow.since (hk43.le le29) (Nat.le_trans hl8.size (Nat.le_trans hl9.size hq1.size))))
            have le37 : Le w3 w51 := (hl37.le le36 (Ow.since hk46 (Nat.le_trans hl8.size (Nat.le_trans hl9.size (Nat.le_trans hq1.size hl10.size)))))
            have le38 : Le w3 w57 := (hq18.le (le37.trans (hl38.trans (hl39.trans (qle3.trans hl40)))) (inc (Nat.le_trans hl8.size (Nat.le_trans hl9.size (Nat.le_trans hq1.size (Nat.le_trans hl10.size (Nat.le_trans hl22.size (Nat.le_trans qle1.size (Nat.le_trans hl34.size (Nat.le_trans hq14.size (Nat.le_trans qle2.size (Nat.le_trans hl35.size (Nat.le_trans hq15.size (Nat.le_trans hl36.size (Nat.le_trans hl37.size (Nat.le_trans hl38.size (Nat.le_trans hl39.size qle3.size))))))))))))))) hb32z inn))
            refine LF rfl rfl rfl has20_D1 rfl (r_pending (S := ([b1, b15, b16, b17, b4] ++ S)) (⟨_, _, _, _, _, (Le.bk le38 hb3), (RdX.nil _ _ _), (RdX.nil _ _ _), (RdX.nil _ _ _), (RdX.nil _ _ _), (RdX.nil _ _ _)⟩ : Cl ([b1, b15, b16, b17, b4] ++ S) w57 118 b3 (newC 2 2)) (newC_ok (se := 2) (reps := 2) rfl) (List.mem_append_right _ hmw) (lt_app (lt_cons (Nat.lt_of_lt_of_le (bk_lt hb1) (Nat.le_trans hl3.size (Nat.le_trans hl4.size (Nat.le_trans hl6.size (Nat.le_trans hl7.size (Nat.le_trans hl8.size (Nat.le_trans hl9.size (Nat.le_trans hq1.size (Nat.le_trans hl10.size (Nat.le_trans hl22.size (Nat.le_trans qle1.size (Nat.le_trans hl34.size (Nat.le_trans hq14.size (Nat.le_trans qle2.size (Nat.le_trans hl35.size (Nat.le_trans hq15.size (Nat.le_trans hl36.size (Nat.le_trans hl37.size (Nat.le_trans hl38.size (Nat.le_trans hl39.size (Nat.le_trans qle3.size (Nat.le_trans hl40.size hq18.size)))))))))))))))))))))) (lt_cons (Nat.lt_of_lt_of_le (bk_lt hb28) (Nat.le_trans hq14.size (Nat.le_trans qle2.size (Nat.le_trans hl35.size (Nat.le_trans hq15.size (Nat.le_trans hl36.size (Nat.le_trans hl37.size (Nat.le_trans hl38.size (Nat.le_trans hl39.size (Nat.le_trans qle3.size (Nat.le_trans hl40.size hq18.size))))))))))) (lt_cons (Nat.lt_of_lt_of_le (bk_lt hb30) (Nat.le_trans hq15.size (Nat.le_trans hl36.size (Nat.le_trans hl37.size (Nat.le_trans hl38.size (Nat.le_trans hl39.size (Nat.le_trans qle3.size (Nat.le_trans hl40.size hq18.size)))))))) (lt_cons (Nat.lt_of_lt_of_le (bk_lt hb32) hq18.size) (lt_cons (Nat.lt_of_lt_of_le (bk_lt hb4) (Nat.le_trans hq1.size (Nat.le_trans hl10.size (Nat.le_trans hl22.size (Nat.le_trans qle1.size (Nat.le_trans hl34.size (Nat.le_trans hq14.size (Nat.le_trans qle2.size (Nat.le_trans hl35.size (Nat.le_trans hq15.size (Nat.le_trans hl36.size (Nat.le_trans hl37.size (Nat.le_trans hl38.size (Nat.le_trans hl39.size (Nat.le_trans qle3.size (Nat.le_trans hl40.size hq18.size)))))))))))))))) lt_nil))))) (lt_le hS (Nat.le_trans qle1.size (Nat.le_trans hl34.size (Nat.le_trans hq14.size (Nat.le_trans qle2.size (Nat.le_trans hl35.size (Nat.le_trans hq15.size (Nat.le_trans hl36.size (Nat.le_trans hl37.size (Nat.le_trans hl38.size (Nat.le_trans hl39.size (Nat.le_trans qle3.size (Nat.le_trans hl40.size hq18.size)))))))))))))) ) ?_
            rintro _ w58 (⟨qf3, rfl, qle5⟩ | ⟨qf4, qxc3, qxa3, qxr4, qxw4, rfl, qle6, qoc3, qoa3, qor4, qow4⟩)
            ·
             refine ⟨trivial, ?_⟩
             refine LP rfl rfl rfl (xmv rfl) ?_
             refine LP rfl rfl rfl (xext rfl rfl) ?_
             refine LP rfl rfl rfl (xext rfl rfl) ?_
             refine LT rfl rfl rfl (xal zr26) ?_
             rintro _ w59 ⟨b18, rfl, hl41, hb34, hb34z⟩
             refine ⟨trivial, ?_⟩
             refine LU rfl rfl (xsb sz26 hb34 rfl rfl (agg_cells _) rfl rfl (al_cons rfl (al_cons rfl (al_cons rfl (al_cons rfl (al_cons rfl (al_cons rfl al_nil))))))) ?_
             rintro w60 ⟨hq19, hb35⟩
             dsimp only [put] at hb35
             refine ⟨trivial, ?_⟩
             refine LP rfl rfl rfl (xas rfl) ?_
             refine LZ ?_
             refine F_seq ?_
             refine W_seq ?_
             refine W_reg (.pure 0 (.pure 1 (.pure 2 (.pure 3 (.one 4 (.one 5 (.one 6 (.pure 7 (.pure 8 .nil))))))))) rfl ?_
             refine LP rfl rfl rfl (xmv rfl) ?_
             refine LP rfl rfl rfl (xmv rfl) ?_
             refine LP rfl rfl rfl (xbeq un4 rfl rfl) ?_
             refine L_is 131 (v := .bool true) rfl (by simp) ?_
             refine LP rfl rfl rfl (xmv rfl) ?_
             have le39 : Le w57 w60 := (hq19.le (qle5.trans hl41) (inc qle5.size hb34z inn))
             refine LX rfl rfl rfl (xlb6 ag26 (Le.bk le39 hb33) rfl rfl rfl rfl rfl rfl rfl) trivial ?_
             refine LX rfl rfl rfl (xlb6 ag26 hb35 rfl rfl rfl rfl rfl rfl rfl) trivial ?_
             refine LF rfl rfl rfl has21 rfl (txnSame (t := ⟨0, 0, [], [], [], []⟩) (RdE.nil _ _) (RdE.nil _ _) (RdE.nil _ _) (RdE.nil _ _) (RdE.nil _ _) (RdE.nil _ _) (RdE.nil _ _) (RdE.nil _ _)) ?_
             rintro _ w61 ⟨rfl, hl42⟩
             refine ⟨trivial, ?_⟩
             refine LP rfl rfl rfl (xpk1 rfl rfl) ?_
             refine LP rfl rfl rfl (xas rfl) ?_
             refine LZ ?_
             refine F_seq ?_
             refine W_ret ?_
             have le40 : Le w w48 := (hq15.le (le27.trans (qle2.trans hl35)) (inc (Nat.le_trans hl1.size (Nat.le_trans hl3.size (Nat.le_trans hl4.size (Nat.le_trans hl6.size (Nat.le_trans hl7.size (Nat.le_trans hl8.size (Nat.le_trans hl9.size (Nat.le_trans hq1.size (Nat.le_trans hl10.size (Nat.le_trans hl22.size (Nat.le_trans qle1.size (Nat.le_trans hl34.size (Nat.le_trans hq14.size qle2.size))))))))))))) hb30z inn))
             have le41 : Le w w49 := (hl36.le le40 (Ow.since (hk43.le le29) (Nat.le_trans hl1.size (Nat.le_trans hl3.size (Nat.le_trans hl4.size (Nat.le_trans hl6.size (Nat.le_trans hl7.size (Nat.le_trans hl8.size (Nat.le_trans hl9.size hq1.size)))))))))
             have le42 : Le w w51 := (hl37.le le41 (Ow.since hk46 (Nat.le_trans hl1.size (Nat.le_trans hl3.size (Nat.le_trans hl4.size (Nat.le_trans hl6.size (Nat.le_trans hl7.size (Nat.le_trans hl8.size (Nat.le_trans hl9.size (Nat.le_trans hq1.size hl10.size))))))))))
             have le43 : Le w w57 := (hq18.le (le42.trans (hl38.trans (hl39.trans (qle3.trans hl40)))) (inc (Nat.le_trans hl1.size (Nat.le_trans hl3.size (Nat.le_trans hl4.size (Nat.le_trans hl6.size (Nat.le_trans hl7.size (Nat.le_trans hl8.size (Nat.le_trans hl9.size (Nat.le_trans hq1.size (Nat.le_trans hl10.size (Nat.le_trans hl22.size (Nat.le_trans qle1.size (Nat.le_trans hl34.size (Nat.le_trans hq14.size (Nat.le_trans qle2.size (Nat.le_trans hl35.size (Nat.le_trans hq15.size (Nat.le_trans hl36.size (Nat.le_trans hl37.size (Nat.le_trans hl38.size (Nat.le_trans hl39.size qle3.size)))))))))))))))))))) hb32z inn))
             have le44 : Le w w60 := (hq19.le (le43.trans (qle5.trans hl41)) (inc (Nat.le_trans hl1.size (Nat.le_trans hl3.size (Nat.le_trans hl4.size (Nat.le_trans hl6.size (Nat.le_trans hl7.size (Nat.le_trans hl8.size (Nat.le_trans hl9.size (Nat.le_trans hq1.size (Nat.le_trans hl10.size (Nat.le_trans hl22.size (Nat.le_trans qle1.size (Nat.le_trans hl34.size (Nat.le_trans hq14.size (Nat.le_trans qle2.size (Nat.le_trans hl35.size (Nat.le_trans hq15.size (Nat.le_trans hl36.size (Nat.le_trans hl37.size (Nat.le_trans hl38.size (Nat.le_trans hl39.size (Nat.le_trans qle3.size (Nat.le_trans hl40.size (Nat.le_trans hq18.size qle5.size))))))))))))))))))))))) hb34z inn))
             exact F_end1 rfl rfl ⟨_, rfl, rfl, (le44.trans hl42)⟩
            ·
             exact absurd qf4 (by simp [submitC, newC])
           ·
            exact absurd qf2 (by simp [submitC, newC])
      ·
       exact absurd qeq2 qne1
     ·
      have le45 : Le w3 w6 := (hq1.le (hl8.trans hl9) (inc hl8.size hb4z inn))
      have le46 : Le w3 w7 := (hl10.le le45 (inc hl8.size hb4z inn))
      have le47 : Le w3 w25 := (hl22.le le46 (inc hl8.size hb4z inn))
      have hk63 := qlx1.bk (ni_new hz2 (Nat.lt_of_lt_of_le (bk_lt hb2) hl6.size) ni_nil) (Le.bk le47 hb3)
      have hk64 := qlx1.bk (ni_new hb4z (Nat.lt_of_lt_of_le (bk_lt hb2) (Nat.le_trans hl6.size (Nat.le_trans hl7.size hl8.size))) ni_nil) hbmxr
      have hk65 := qlx1.ow (Off.cons (Ow.ne_new hoxc (Nat.lt_of_lt_of_le (bk_lt hb2) (Nat.le_trans hl6.size (Nat.le_trans hl7.size (Nat.le_trans hl8.size (Nat.le_trans hl9.size hq1.size)))))) Off.nil) hk43
      have hk66 := qlx1.ow (Off.cons (Ow.ne_new hoxa (Nat.lt_of_lt_of_le (bk_lt hb2) (Nat.le_trans hl6.size (Nat.le_trans hl7.size (Nat.le_trans hl8.size (Nat.le_trans hl9.size hq1.size)))))) Off.nil) hk44
      have hk67 := qlx1.ow (Off.cons (Ow.ne_new hoxr (Nat.lt_of_lt_of_le (bk_lt hb2) (Nat.le_trans hl6.size (Nat.le_trans hl7.size (Nat.le_trans hl8.size (Nat.le_trans hl9.size (Nat.le_trans hq1.size hl10.size))))))) Off.nil) hoxr
      have hk68 := qlx1.ow (Off.cons (Ow.ne_new hoxw (Nat.lt_of_lt_of_le (bk_lt hb2) (Nat.le_trans hl6.size (Nat.le_trans hl7.size (Nat.le_trans hl8.size (Nat.le_trans hl9.size (Nat.le_trans hq1.size hl10.size))))))) Off.nil) hoxw
      obtain ⟨S, hSd⟩ : ∃ S', S' = blks4 qxc1 qxa1 qxr1 qxw1 ++ ([b1, b4] ++ S) := ⟨_, rfl⟩
      rw [← hSd] at qcl1
      have hSge : ∀ i ∈ S, w.heap.size ≤ i := by rw [hSd]; exact ge_app (blks4_ge (Ow.since qoc1 (Nat.le_trans hl1.size (Nat.le_trans hl3.size (Nat.le_trans hl4.size (Nat.le_trans hl6.size (Nat.le_trans hl7.size (Nat.le_trans hl8.size (Nat.le_trans hl9.size (Nat.le_trans hq1.size (Nat.le_trans hl10.size hl22.size)))))))))) (Ow.since qoa1 (Nat.le_trans hl1.size (Nat.le_trans hl3.size (Nat.le_trans hl4.size (Nat.le_trans hl6.size (Nat.le_trans hl7.size (Nat.le_trans hl8.size (Nat.le_trans hl9.size (Nat.le_trans hq1.size (Nat.le_trans hl10.size hl22.size)))))))))) (Ow.since qor1 (Nat.le_trans hl1.size (Nat.le_trans hl3.size (Nat.le_trans hl4.size (Nat.le_trans hl6.size (Nat.le_trans hl7.size (Nat.le_trans hl8.size (Nat.le_trans hl9.size (Nat.le_trans hq1.size (Nat.le_trans hl10.size hl22.size)))))))))) (Ow.since qow1 (Nat.le_trans hl1.size (Nat.le_trans hl3.size (Nat.le_trans hl4.size (Nat.le_trans hl6.size (Nat.le_trans hl7.size (Nat.le_trans hl8.size (Nat.le_trans hl9.size (Nat.le_trans hq1.size (Nat.le_trans hl10.size hl22.size))))))))))) (ge_app (inc (Nat.le_refl _) hb1z (inc (Nat.le_trans hl1.size (Nat.le_trans hl3.size (Nat.le_trans hl4.size (Nat.le_trans hl6.size (Nat.le_trans hl7.size hl8.size))))) hb4z inn)) hSge)
      have hS : ∀ i ∈ S, i < w43.heap.size := by rw [hSd]; exact lt_app (blks4_lt (Ow.lt qoc1) (Ow.lt qoa1) (Ow.lt qor1) (Ow.lt qow1)) (lt_app (lt_cons (Nat.lt_of_lt_of_le (bk_lt hb1) (Nat.le_trans hl3.size (Nat.le_trans hl4.size (Nat.le_trans hl6.size (Nat.le_trans hl7.size (Nat.le_trans hl8.size (Nat.le_trans hl9.size (Nat.le_trans hq1.size (Nat.le_trans hl10.size (Nat.le_trans hl22.size qlx1.size)))))))))) (lt_cons (Nat.lt_of_lt_of_le (bk_lt hb4) (Nat.le_trans hq1.size (Nat.le_trans hl10.size (Nat.le_trans hl22.size qlx1.size)))) lt_nil)) (lt_le hS qlx1.size))
      have hmxc : ∀ i ∈ xc.ownBlock.toList, i ∈ S := fun i hi => by rw [hSd]; exact (List.mem_append_right _ (List.mem_append_right _ (hmxc i hi)))
      have hmxr : ∀ i ∈ xr.ownBlock.toList, i ∈ S := fun i hi => by rw [hSd]; exact (List.mem_append_right _ (List.mem_append_right _ (hmxr i hi)))
      have hmc : b2 ∈ S := by rw [hSd]; exact (List.mem_append_right _ (List.mem_append_right _ hmc))
      have hmw : b3 ∈ S := by rw [hSd]; exact (List.mem_append_right _ (List.mem_append_right _ hmw))
      have hmqxc1 : ∀ i ∈ qxc1.ownBlock.toList, i ∈ S := fun i hi => by rw [hSd]; exact List.mem_append_left _ (blks4_1 i hi)
      have hmqxw1 : ∀ i ∈ qxw1.ownBlock.toList, i ∈ S := fun i hi => by rw [hSd]; exact List.mem_append_left _ (blks4_4 i hi)
      obtain ⟨z1, z2, z3, z4, z5, hb36, hz3, hz4, hz5, hz6, hz7⟩ := qcl1
      refine ⟨trivial, ?_⟩
      refine LP rfl rfl rfl (xmv rfl) ?_
      refine LP rfl rfl rfl (xext rfl rfl) ?_
      refine LP rfl rfl rfl (xext rfl rfl) ?_
      refine LT rfl rfl rfl (xal zr36) ?_
      rintro _ w62 ⟨b19, rfl, hl43, hb37, hb37z⟩
      refine ⟨trivial, ?_⟩
      refine LU rfl rfl (xsb sz36 hb37 rfl rfl (agg_cells _) rfl rfl (al_cons rfl (al_cons rfl (al_cons rfl (al_cons qoc1.rd.sh.one (al_cons qoa1.rd.sh.one (al_cons qor1.rd.sh.one (al_cons qow1.rd.sh.one (al_cons rfl (al_cons rfl (al_cons rfl al_nil))))))))))) ?_
      rintro w63 ⟨hq20, hb38⟩
      dsimp only [put] at hb38
      refine ⟨trivial, ?_⟩
      refine LP rfl rfl rfl (xas rfl) ?_
      refine LZ ?_
      refine F_seq ?_
      refine W_seq ?_
      refine W_seq ?_
      refine W_reg (.pure 0 (.one 1 (.one 2 (.pure 3 (.pure 4 (.pure 5 (.one 6 (.one 7 (.pure 8 .nil))))))))) rfl ?_
      refine LP rfl rfl rfl (xmv rfl) ?_
      have le48 : Le w1 w6 := (hq1.le (hl3.trans (hl4.trans (hl6.trans (hl7.trans (hl8.trans hl9))))) (inc (Nat.le_trans hl3.size (Nat.le_trans hl4.size (Nat.le_trans hl6.size (Nat.le_trans hl7.size hl8.size)))) hb4z inn))
      have le49 : Le w1 w7 := (hl10.le le48 (inc (Nat.le_trans hl3.size (Nat.le_trans hl4.size (Nat.le_trans hl6.size (Nat.le_trans hl7.size hl8.size)))) hb4z inn))
      have le50 : Le w1 w25 := (hl22.le le49 (inc (Nat.le_trans hl3.size (Nat.le_trans hl4.size (Nat.le_trans hl6.size (Nat.le_trans hl7.size hl8.size)))) hb4z inn))
      have le51 : Le w1 w43 := (qlx1.le le50 (inc hl3.size hz1 inn))
      have le52 : Le w1 w63 := (hq20.le (le51.trans hl43) (inc (Nat.le_trans hl3.size (Nat.le_trans hl4.size (Nat.le_trans hl6.size (Nat.le_trans hl7.size (Nat.le_trans hl8.size (Nat.le_trans hl9.size (Nat.le_trans hq1.size (Nat.le_trans hl10.size (Nat.le_trans hl22.size qlx1.size))))))))) hb37z inn))
      refine LX rfl rfl rfl (xlb6 ag26 (Le.bk le52 hb1) rfl rfl rfl rfl rfl rfl rfl) trivial ?_
      have le53 : Le w43 w63 := (hq20.le hl43 (inc (Nat.le_refl _) hb37z inn))
      have le54 : Le w w6 := (hq1.le (hl1.trans (hl3.trans (hl4.trans (hl6.trans (hl7.trans (hl8.trans hl9)))))) (inc (Nat.le_trans hl1.size (Nat.le_trans hl3.size (Nat.le_trans hl4.size (Nat.le_trans hl6.size (Nat.le_trans hl7.size hl8.size))))) hb4z inn))
      have le55 : Le w w7 := (hl10.le le54 (inc (Nat.le_trans hl1.size (Nat.le_trans hl3.size (Nat.le_trans hl4.size (Nat.le_trans hl6.size (Nat.le_trans hl7.size hl8.size))))) hb4z inn))
      have le56 : Le w w25 := (hl22.le le55 (inc (Nat.le_trans hl1.size (Nat.le_trans hl3.size (Nat.le_trans hl4.size (Nat.le_trans hl6.size (Nat.le_trans hl7.size hl8.size))))) hb4z inn))
      have le57 : Le w w43 := (qlx1.le le56 (inc (Nat.le_trans hl1.size hl3.size) hz1 inn))
      have le58 : Le w w63 := (hq20.le (le57.trans hl43) (inc (Nat.le_trans hl1.size (Nat.le_trans hl3.size (Nat.le_trans hl4.size (Nat.le_trans hl6.size (Nat.le_trans hl7.size (Nat.le_trans hl8.size (Nat.le_trans hl9.size (Nat.le_trans hq1.size (Nat.le_trans hl10.size (Nat.le_trans hl22.size qlx1.size)))))))))) hb37z inn))
      refine LF rfl rfl rfl has18_D1 rfl (r_submit (S := ([b1, b19, b4] ++ S)) (⟨_, _, _, _, _, (Le.bk le53 hk63), (RdX.nil _ _ _), (RdX.nil _ _ _), (RdX.nil _ _ _), (RdX.nil _ _ _), (RdX.nil _ _ _)⟩ : Cl ([b1, b19, b4] ++ S) w63 118 b3 (newC 2 2)) (newC_ok (se := 2) (reps := 2) rfl) (List.mem_append_right _ hmw) (lt_app (lt_cons (Nat.lt_of_lt_of_le (bk_lt hb1) (Nat.le_trans hl3.size (Nat.le_trans hl4.size (Nat.le_trans hl6.size (Nat.le_trans hl7.size (Nat.le_trans hl8.size (Nat.le_trans hl9.size (Nat.le_trans hq1.size (Nat.le_trans hl10.size (Nat.le_trans hl22.size (Nat.le_trans qlx1.size (Nat.le_trans hl43.size hq20.size)))))))))))) (lt_cons (Nat.lt_of_lt_of_le (bk_lt hb37) hq20.size) (lt_cons (Nat.lt_of_lt_of_le (bk_lt hb4) (Nat.le_trans hq1.size (Nat.le_trans hl10.size (Nat.le_trans hl22.size (Nat.le_trans qlx1.size (Nat.le_trans hl43.size hq20.size)))))) lt_nil))) (lt_le hS (Nat.le_trans hl43.size hq20.size))) (t := ⟨t.se, t.rq, t.code, t.args, t.reads, t.writes⟩) (rep := (0 : Int)) (RdX.of_le htc rfl le58 (ge_app (inc (Nat.le_refl _) hb1z (inc (Nat.le_trans hl1.size (Nat.le_trans hl3.size (Nat.le_trans hl4.size (Nat.le_trans hl6.size (Nat.le_trans hl7.size (Nat.le_trans hl8.size (Nat.le_trans hl9.size (Nat.le_trans hq1.size (Nat.le_trans hl10.size (Nat.le_trans hl22.size qlx1.size)))))))))) hb37z (inc (Nat.le_trans hl1.size (Nat.le_trans hl3.size (Nat.le_trans hl4.size (Nat.le_trans hl6.size (Nat.le_trans hl7.size hl8.size))))) hb4z inn))) hSge)) (RdX.of_le hta rfl le58 (ge_app (inc (Nat.le_refl _) hb1z (inc (Nat.le_trans hl1.size (Nat.le_trans hl3.size (Nat.le_trans hl4.size (Nat.le_trans hl6.size (Nat.le_trans hl7.size (Nat.le_trans hl8.size (Nat.le_trans hl9.size (Nat.le_trans hq1.size (Nat.le_trans hl10.size (Nat.le_trans hl22.size qlx1.size)))))))))) hb37z (inc (Nat.le_trans hl1.size (Nat.le_trans hl3.size (Nat.le_trans hl4.size (Nat.le_trans hl6.size (Nat.le_trans hl7.size hl8.size))))) hb4z inn))) hSge)) (RdX.of_le htr rfl le58 (ge_app (inc (Nat.le_refl _) hb1z (inc (Nat.le_trans hl1.size (Nat.le_trans hl3.size (Nat.le_trans hl4.size (Nat.le_trans hl6.size (Nat.le_trans hl7.size (Nat.le_trans hl8.size (Nat.le_trans hl9.size (Nat.le_trans hq1.size (Nat.le_trans hl10.size (Nat.le_trans hl22.size qlx1.size)))))))))) hb37z (inc (Nat.le_trans hl1.size (Nat.le_trans hl3.size (Nat.le_trans hl4.size (Nat.le_trans hl6.size (Nat.le_trans hl7.size hl8.size))))) hb4z inn))) hSge)) (RdX.of_le htw rfl le58 (ge_app (inc (Nat.le_refl _) hb1z (inc (Nat.le_trans hl1.size (Nat.le_trans hl3.size (Nat.le_trans hl4.size (Nat.le_trans hl6.size (Nat.le_trans hl7.size (Nat.le_trans hl8.size (Nat.le_trans hl9.size (Nat.le_trans hq1.size (Nat.le_trans hl10.size (Nat.le_trans hl22.size qlx1.size)))))))))) hb37z (inc (Nat.le_trans hl1.size (Nat.le_trans hl3.size (Nat.le_trans hl4.size (Nat.le_trans hl6.size (Nat.le_trans hl7.size hl8.size))))) hb4z inn))) hSge)) hsm hB) ?_
      rintro _ w64 (⟨qne3, rfl, qle7⟩ | ⟨qeq3, qxr5, qxw5, rfl, qlx3, qcl3, qor5, qow5⟩)
      ·
       exact absurd qeq1 qne3
      ·
       have hk69 := qlx3.bk (ni_old (Nat.lt_of_lt_of_le (bk_lt hb2) hl6.size) hz2 ni_nil) (Le.bk le53 hb36)
       have hk70 := Lx.rdx2 qlx3 hz3.rd rfl (dr_in hmw dr_nil) (Le.rdx le53 hz3)
       have hk71 := Lx.rdx2 qlx3 hz4.rd rfl (dr_in hmw dr_nil) (Le.rdx le53 hz4)
       have hk72 := Lx.rdx2 qlx3 hz5.rd rfl (dr_in hmw dr_nil) (Le.rdx le53 hz5)
       have hk73 := Lx.rdx2 qlx3 hz6.rd rfl (dr_in hmw dr_nil) (Le.rdx le53 hz6)
       have hk74 := Lx.rdx2 qlx3 hz7.rd rfl (dr_in hmw dr_nil) (Le.rdx le53 hz7)
       have hk75 := qlx3.bk (ni_new hb4z (Nat.lt_of_lt_of_le (bk_lt hb3) hl8.size) ni_nil) (Le.bk le53 hk64)
       have hk76 := qlx3.ow (Off.cons (Ow.ne_new hoxc (Nat.lt_of_lt_of_le (bk_lt hb3) (Nat.le_trans hl8.size (Nat.le_trans hl9.size hq1.size)))) Off.nil) (hk65.le le53)
       have hk77 := qlx3.ow (Off.cons (Ow.ne_new hoxa (Nat.lt_of_lt_of_le (bk_lt hb3) (Nat.le_trans hl8.size (Nat.le_trans hl9.size hq1.size)))) Off.nil) (hk66.le le53)
       have hk78 := qlx3.ow (Off.cons (Ow.ne_new hoxr (Nat.lt_of_lt_of_le (bk_lt hb3) (Nat.le_trans hl8.size (Nat.le_trans hl9.size (Nat.le_trans hq1.size hl10.size))))) Off.nil) (hk67.le le53)
       have hk79 := qlx3.ow (Off.cons (Ow.ne_new hoxw (Nat.lt_of_lt_of_le (bk_lt hb3) (Nat.le_trans hl8.size (Nat.le_trans hl9.size (Nat.le_trans hq1.size hl10.size))))) Off.nil) (hk68.le le53)
       have hk80 := qlx3.ow (Off.cons (Ow.ne_new qoc1 (Nat.lt_of_lt_of_le (bk_lt hb3) (Nat.le_trans hl8.size (Nat.le_trans hl9.size (Nat.le_trans hq1.size (Nat.le_trans hl10.size hl22.size)))))) Off.nil) (qoc1.le le53)
       have hk81 := qlx3.ow (Off.cons (Ow.ne_new qoa1 (Nat.lt_of_lt_of_le (bk_lt hb3) (Nat.le_trans hl8.size (Nat.le_trans hl9.size (Nat.le_trans hq1.size (Nat.le_trans hl10.size hl22.size)))))) Off.nil) (qoa1.le le53)
       have hk82 := qlx3.ow (Off.cons (Ow.ne_new qor1 (Nat.lt_of_lt_of_le (bk_lt hb3) (Nat.le_trans hl8.size (Nat.le_trans hl9.size (Nat.le_trans hq1.size (Nat.le_trans hl10.size hl22.size)))))) Off.nil) (qor1.le le53)
       have hk83 := qlx3.ow (Off.cons (Ow.ne_new qow1 (Nat.lt_of_lt_of_le (bk_lt hb3) (Nat.le_trans hl8.size (Nat.le_trans hl9.size (Nat.le_trans hq1.size (Nat.le_trans hl10.size hl22.size)))))) Off.nil) (qow1.le le53)
       have hk84 := qlx3.bk (ni_new hb37z (Nat.lt_of_lt_of_le (bk_lt hb3) (Nat.le_trans hl8.size (Nat.le_trans hl9.size (Nat.le_trans hq1.size (Nat.le_trans hl10.size (Nat.le_trans hl22.size qlx1.size)))))) ni_nil) hb38
       obtain ⟨z6, z7, z8, z9, z10, hb39, hz8, hz9, hz10, hz11, hz12⟩ := qcl3
       refine ⟨trivial, ?_⟩
       refine LP rfl rfl rfl (xmv rfl) ?_
       refine LP rfl rfl rfl (xext rfl rfl) ?_
       refine LP rfl rfl rfl (xext rfl rfl) ?_
       refine LT rfl rfl rfl (xal zr36) ?_
       rintro _ w65 ⟨b20, rfl, hl44, hb40, hb40z⟩
       refine ⟨trivial, ?_⟩
       refine LU rfl rfl (xsb sz36 hb40 rfl rfl (agg_cells _) rfl rfl (al_cons rfl (al_cons rfl (al_cons rfl (al_cons htc.sh.one (al_cons hta.sh.one (al_cons qor5.rd.sh.one (al_cons qow5.rd.sh.one (al_cons rfl (al_cons rfl (al_cons rfl al_nil))))))))))) ?_
       rintro w66 ⟨hq21, hb41⟩
       dsimp only [put] at hb41
       refine ⟨trivial, ?_⟩
       refine LP rfl rfl rfl (xas rfl) ?_
       refine LZ ?_
       refine F_seq ?_
       refine W_seq ?_
       refine W_reg (.pure 0 (.pure 1 (.pure 2 .nil))) rfl ?_
       refine LP rfl rfl rfl (xmv rfl) ?_
       refine LP rfl rfl rfl (xmv rfl) ?_
       refine LP rfl rfl rfl (xneq rfl rfl) ?_
       refine L_is 68 (v := .bool false) rfl (by simp) ?_
       refine LZ ?_
       refine F_seq ?_
       refine W_else rfl ?_
       refine W_skip ?_
       refine F_seq ?_
       refine W_seq ?_
       refine W_seq ?_
       refine W_reg (.pure 0 (.one 1 (.pure 2 (.pure 3 .nil)))) rfl ?_
       refine LP rfl rfl rfl (xfa fa26_2 rfl) ?_
       have le59 : Le w64 w66 := (hq21.le hl44 (inc (Nat.le_refl _) hb40z inn))
       refine LX rfl rfl rfl (xld sc22 rfl (cl_bk (Le.bk le59 hk75) rfl)) trivial ?_
       refine LP rfl rfl rfl (xlen un22 hk76.rd.sh rfl) ?_
       refine LP rfl rfl rfl (xmv rfl) ?_
       refine LZ ?_
       refine F_seq ?_
       refine W_block ?_
       have hb72 := ((hk76.le le59)).rd.sh.le
       refine W_loopv (ι := Nat × (List Int)) (fun ⟨k, rr3⟩ => [(72, .int .i64 (k : Int))]) (fun ⟨k, rr3⟩ w' => Lx xc.ownBlock.toList w66 w' ∧ k ≤ t.code.length ∧ rr3.length = t.code.length ∧ Ow w' w6 5 ByteE xc rr3) (fun ⟨k, rr3⟩ => t.code.length - k) ⟨0, t.code⟩ (hvc rfl hvn) ⟨Lx.refl _ _, Nat.zero_le _, rfl, (hk76.le le59)⟩ ?_
       rintro ⟨k, rr3⟩ w67 ⟨hl45, hk, hlrr3, horr3⟩
       show W _ _ _ _ _ ([(72, .int .i64 (k : Int))] ++ _) _
       have hk85 := hl45.bk (Ow.ni_old (hk76.le le59) (Nat.lt_of_lt_of_le (bk_lt hb2) (Nat.le_trans hl6.size (Nat.le_trans hl7.size (Nat.le_trans hl8.size (Nat.le_trans hl9.size hq1.size)))))) (Le.bk le59 hk69)
       have hk86 := Lx.rdx2 hl45 hz3.rd rfl (dr_mem hmxc) (Le.rdx le59 hk70)
       have hk87 := Lx.rdx2 hl45 hz4.rd rfl (dr_mem hmxc) (Le.rdx le59 hk71)
       have hk88 := Lx.rdx2 hl45 hz5.rd rfl (dr_mem hmxc) (Le.rdx le59 hk72)
       have hk89 := Lx.rdx2 hl45 hz6.rd rfl (dr_mem hmxc) (Le.rdx le59 hk73)
       have hk90 := Lx.rdx2 hl45 hz7.rd rfl (dr_mem hmxc) (Le.rdx le59 hk74)
       have hk91 := hl45.bk (Ow.ni_old (hk76.le le59) (Nat.lt_of_lt_of_le (bk_lt hb3) (Nat.le_trans hl8.size (Nat.le_trans hl9.size hq1.size)))) (Le.bk le59 hb39)
       have hk92 := Lx.rdx2 hl45 hz8.rd rfl (dr_mem (fun i hi => List.mem_append_right _ (hmxc i hi))) (Le.rdx le59 hz8)
       have hk93 := Lx.rdx2 hl45 hz9.rd rfl (dr_mem (fun i hi => List.mem_append_right _ (hmxc i hi))) (Le.rdx le59 hz9)
       have hk94 := Lx.rdx2 hl45 hz10.rd rfl (dr_mem (fun i hi => List.mem_append_right _ (hmxc i hi))) (Le.rdx le59 hz10)
       have hk95 := Lx.rdx2 hl45 hz11.rd rfl (dr_mem (fun i hi => List.mem_append_right _ (hmxc i hi))) (Le.rdx le59 hz11)
       have hk96 := Lx.rdx2 hl45 hz12.rd rfl (dr_mem (fun i hi => List.mem_append_right _ (hmxc i hi))) (Le.rdx le59 hz12)
       have hk97 := hl45.bk (Ow.ni_old (hk76.le le59) (Nat.lt_of_lt_of_le (bk_lt hb4) hq1.size)) (Le.bk le59 hk75)
       have hk98 := hl45.ow (Ow.off_new hoxr hoxc (Nat.le_refl _)) (hk78.le le59)
       have hk99 := hl45.ow (Ow.off_new hoxw hoxc (Nat.le_refl _)) (hk79.le le59)
       have hk100 := hl45.ow (Ow.off_new qoc1 hoxc hl22.size) (hk80.le le59)
       have hk101 := hl45.ow (Ow.off_new qoa1 hoxc hl22.size) (hk81.le le59)
       have hk102 := hl45.ow (Ow.off_new qor1 hoxc hl22.size) (hk82.le le59)
       have hk103 := hl45.ow (Ow.off_new qow1 hoxc hl22.size) (hk83.le le59)
       have hk104 := hl45.bk (Ow.ni_new hoxc hb37z (Nat.le_trans hl22.size qlx1.size)) (Le.bk le59 hk84)
       have hk105 := Lx.rdx2 hl45 qor5.rd rfl (dr_mem (fun i hi => List.mem_append_right _ (hmxc i hi))) (Le.rdx le59 qor5)
       have hk106 := Lx.rdx2 hl45 qow5.rd rfl (dr_mem (fun i hi => List.mem_append_right _ (hmxc i hi))) (Le.rdx le59 qow5)
       have hk107 := hl45.bk (Ow.ni_new hoxc hb40z (Nat.le_trans hl22.size (Nat.le_trans qlx1.size (Nat.le_trans hl43.size (Nat.le_trans hq20.size qlx3.size))))) hb41
       refine W_seq ?_
       refine W_reg (.pure 0 .nil) rfl ?_
       refine LP rfl rfl rfl (xlss rfl rfl) ?_
       refine LZ ?_
       refine F_seq ?_
       refine W_seq ?_
       refine W_cond rfl (fun c8 => ?_) (fun c8 => ?_)
       · -- c8 yes
        replace c8 := of_decide_eq_true c8
        refine W_skip ?_
        refine F_seq ?_
        refine W_seq ?_
        refine W_block ?_
        refine W_seq ?_
        refine W_reg (.pure 0 (.pure 1 .nil)) rfl ?_
        refine LP rfl rfl rfl (xmv rfl) ?_
        refine LP rfl rfl rfl (xas rfl) ?_
        refine LZ ?_
        refine F_seq ?_
        refine W_reg (.pure 0 (.one 1 (.pure 2 (.pure 3 (.one 4 .nil))))) rfl ?_
        refine LP rfl rfl rfl (xfa fa26_2 rfl) ?_
        refine LX rfl rfl rfl (xld sc22 rfl (cl_bk hk97 rfl)) trivial ?_
        refine LP rfl rfl rfl (xmv rfl) ?_
        obtain ⟨x3, hx3⟩ : ∃ x, rr3[k]? = some x := ⟨_, List.getElem?_eq_getElem (by omega)⟩
        refine LP rfl rfl rfl (xix k un22 sz5 horr3.rd.sh rfl rfl (by omega) (by omega)) ?_
        refine LU rfl rfl (xst sz5 horr3 (by first | omega | (simp only [List.length_append, List.length_take, List.length_drop, List.length_cons, List.length_nil, List.length_set, List.length_replicate, maxLen]; omega)) rfl rfl rfl rfl) ?_
        rintro w68 ⟨hq22, ho15⟩
        have hk108 := hq22.bk (Ow.ni_old horr3 (Nat.lt_of_lt_of_le (bk_lt hb2) (Nat.le_trans hl6.size (Nat.le_trans hl7.size (Nat.le_trans hl8.size (Nat.le_trans hl9.size hq1.size)))))) hk85
        have hk109 := Lx.rdx2 hq22 hz3.rd rfl (dr_mem hmxc) hk86
        have hk110 := Lx.rdx2 hq22 hz4.rd rfl (dr_mem hmxc) hk87
        have hk111 := Lx.rdx2 hq22 hz5.rd rfl (dr_mem hmxc) hk88
        have hk112 := Lx.rdx2 hq22 hz6.rd rfl (dr_mem hmxc) hk89
        have hk113 := Lx.rdx2 hq22 hz7.rd rfl (dr_mem hmxc) hk90
        have hk114 := hq22.bk (Ow.ni_old horr3 (Nat.lt_of_lt_of_le (bk_lt hb3) (Nat.le_trans hl8.size (Nat.le_trans hl9.size hq1.size)))) hk91
        have hk115 := Lx.rdx2 hq22 hz8.rd rfl (dr_mem (fun i hi => List.mem_append_right _ (hmxc i hi))) hk92
        have hk116 := Lx.rdx2 hq22 hz9.rd rfl (dr_mem (fun i hi => List.mem_append_right _ (hmxc i hi))) hk93
        have hk117 := Lx.rdx2 hq22 hz10.rd rfl (dr_mem (fun i hi => List.mem_append_right _ (hmxc i hi))) hk94
        have hk118 := Lx.rdx2 hq22 hz11.rd rfl (dr_mem (fun i hi => List.mem_append_right _ (hmxc i hi))) hk95
        have hk119 := Lx.rdx2 hq22 hz12.rd rfl (dr_mem (fun i hi => List.mem_append_right _ (hmxc i hi))) hk96
        have hk120 := hq22.bk (Ow.ni_old horr3 (Nat.lt_of_lt_of_le (bk_lt hb4) hq1.size)) hk97
        have hk121 := hq22.ow (Ow.off_new hoxr hoxc (Nat.le_refl _)) hk98
        have hk122 := hq22.ow (Ow.off_new hoxw hoxc (Nat.le_refl _)) hk99
        have hk123 := hq22.ow (Ow.off_new qoc1 hoxc hl22.size) hk100
        have hk124 := hq22.ow (Ow.off_new qoa1 hoxc hl22.size) hk101
        have hk125 := hq22.ow (Ow.off_new qor1 hoxc hl22.size) hk102
        have hk126 := hq22.ow (Ow.off_new qow1 hoxc hl22.size) hk103
        have hk127 := hq22.bk (Ow.ni_new hoxc hb37z (Nat.le_trans hl22.size qlx1.size)) hk104
        have hk128 := Lx.rdx2 hq22 qor5.rd rfl (dr_mem (fun i hi => List.mem_append_right _ (hmxc i hi))) hk105
        have hk129 := Lx.rdx2 hq22 qow5.rd rfl (dr_mem (fun i hi => List.mem_append_right _ (hmxc i hi))) hk106
        have hk130 := hq22.bk (Ow.ni_new hoxc hb40z (Nat.le_trans hl22.size (Nat.le_trans qlx1.size (Nat.le_trans hl43.size (Nat.le_trans hq20.size qlx3.size))))) hk107
        refine ⟨trivial, ?_⟩
        refine LZ ?_
        refine F_block ?_
        refine F_seq ?_
        refine W_reg (.pure 0 (.pure 1 .nil)) rfl ?_
        refine LP rfl rfl rfl (xaddn rfl rfl (by omega)) ?_
        refine LP rfl rfl rfl (xmv rfl) ?_
        refine LZ ?_
        exact F_roundv ⟨k + 1, _⟩ ⟨(Lx.drop hq22 (Lx.drop hl45 (Lx.refl _ _) dr_self) dr_self), by omega, by rw [List.length_set]; exact hlrr3, ho15⟩ (by (try dsimp only); omega) (lk_loop 9 rfl rfl (hvc rfl hvn))
       · -- c8 no
        replace c8 := of_decide_eq_false c8
        refine W_exit ?_
        refine F_exit_then ?_
        refine F_exit_then ?_
        refine F_exit_here ?_
        refine F_seq ?_
        refine W_seq ?_
        refine W_seq ?_
        refine W_reg (.pure 0 (.one 1 (.pure 2 (.pure 3 .nil)))) rfl ?_
        refine LP rfl rfl rfl (xfa fa26_4 rfl) ?_
        refine LX rfl rfl rfl (xld sc24 rfl (cl_bk hk97 rfl)) trivial ?_
        refine LP rfl rfl rfl (xlen un24 hk98.rd.sh rfl) ?_
        refine LP rfl rfl rfl (xmv rfl) ?_
        refine LZ ?_
        refine F_seq ?_
        refine W_block ?_
        have hb83 := (hk98).rd.sh.le
        refine W_loopv (ι := Nat × (List Key)) (fun ⟨k, rr4⟩ => [(83, .int .i64 (k : Int))]) (fun ⟨k, rr4⟩ w' => Lx xr.ownBlock.toList w67 w' ∧ k ≤ t.reads.length ∧ rr4.length = t.reads.length ∧ Ow w' w7 40 KeyE xr rr4) (fun ⟨k, rr4⟩ => t.reads.length - k) ⟨0, t.reads⟩ (hvc rfl hvn) ⟨Lx.refl _ _, Nat.zero_le _, rfl, hk98⟩ ?_
        rintro ⟨k, rr4⟩ w69 ⟨hl46, hk, hlrr4, horr4⟩
        show W _ _ _ _ _ ([(83, .int .i64 (k : Int))] ++ _) _
        have hk131 := hl46.bk (Ow.ni_old hk98 (Nat.lt_of_lt_of_le (bk_lt hb2) (Nat.le_trans hl6.size (Nat.le_trans hl7.size (Nat.le_trans hl8.size (Nat.le_trans hl9.size (Nat.le_trans hq1.size hl10.size))))))) hk85
        have hk132 := Lx.rdx2 hl46 hz3.rd rfl (dr_mem hmxr) hk86
        have hk133 := Lx.rdx2 hl46 hz4.rd rfl (dr_mem hmxr) hk87
        have hk134 := Lx.rdx2 hl46 hz5.rd rfl (dr_mem hmxr) hk88
        have hk135 := Lx.rdx2 hl46 hz6.rd rfl (dr_mem hmxr) hk89
        have hk136 := Lx.rdx2 hl46 hz7.rd rfl (dr_mem hmxr) hk90
        have hk137 := hl46.bk (Ow.ni_old hk98 (Nat.lt_of_lt_of_le (bk_lt hb3) (Nat.le_trans hl8.size (Nat.le_trans hl9.size (Nat.le_trans hq1.size hl10.size))))) hk91
        have hk138 := Lx.rdx2 hl46 hz8.rd rfl (dr_mem (fun i hi => List.mem_append_right _ (hmxr i hi))) hk92
        have hk139 := Lx.rdx2 hl46 hz9.rd rfl (dr_mem (fun i hi => List.mem_append_right _ (hmxr i hi))) hk93
        have hk140 := Lx.rdx2 hl46 hz10.rd rfl (dr_mem (fun i hi => List.mem_append_right _ (hmxr i hi))) hk94
        have hk141 := Lx.rdx2 hl46 hz11.rd rfl (dr_mem (fun i hi => List.mem_append_right _ (hmxr i hi))) hk95
        have hk142 := Lx.rdx2 hl46 hz12.rd rfl (dr_mem (fun i hi => List.mem_append_right _ (hmxr i hi))) hk96
        have hk143 := hl46.bk (Ow.ni_old hk98 (Nat.lt_of_lt_of_le (bk_lt hb4) (Nat.le_trans hq1.size hl10.size))) hk97
        have hk144 := hl46.ow (Ow.off_old hoxc hk98 (Nat.le_refl _)) horr3
        have hk145 := hl46.ow (Ow.off_new qoc1 hoxr (Nat.le_refl _)) hk100
        have hk146 := hl46.ow (Ow.off_new qoa1 hoxr (Nat.le_refl _)) hk101
        have hk147 := hl46.ow (Ow.off_new qor1 hoxr (Nat.le_refl _)) hk102
        have hk148 := hl46.ow (Ow.off_new qow1 hoxr (Nat.le_refl _)) hk103
        have hk149 := hl46.bk (Ow.ni_new hoxr hb37z qlx1.size) hk104
        have hk150 := Lx.rdx2 hl46 qor5.rd rfl (dr_mem (fun i hi => List.mem_append_right _ (hmxr i hi))) hk105
        have hk151 := Lx.rdx2 hl46 qow5.rd rfl (dr_mem (fun i hi => List.mem_append_right _ (hmxr i hi))) hk106
        have hk152 := hl46.bk (Ow.ni_new hoxr hb40z (Nat.le_trans qlx1.size (Nat.le_trans hl43.size (Nat.le_trans hq20.size qlx3.size)))) hk107
        refine W_seq ?_
        refine W_reg (.pure 0 .nil) rfl ?_
        refine LP rfl rfl rfl (xlss rfl rfl) ?_
        refine LZ ?_
        refine F_seq ?_
        refine W_seq ?_
        refine W_cond rfl (fun c9 => ?_) (fun c9 => ?_)
        · -- c9 yes
         replace c9 := of_decide_eq_true c9
         refine W_skip ?_
         refine F_seq ?_
         refine W_seq ?_
         refine W_block ?_
         refine W_seq ?_
         refine W_reg (.pure 0 (.pure 1 .nil)) rfl ?_
         refine LP rfl rfl rfl (xmv rfl) ?_
         refine LP rfl rfl rfl (xas rfl) ?_
         refine LZ ?_
         refine F_seq ?_
         refine W_reg (.pure 0 (.one 1 (.pure 2 (.pure 3 (.pure 4 (.one 5 .nil)))))) rfl ?_
         refine LP rfl rfl rfl (xfa fa26_4 rfl) ?_
         refine LX rfl rfl rfl (xld sc24 rfl (cl_bk hk143 rfl)) trivial ?_
         refine LP rfl rfl rfl (xmv rfl) ?_
         obtain ⟨x4, hx4⟩ : ∃ x, rr4[k]? = some x := ⟨_, List.getElem?_eq_getElem (by omega)⟩
         refine LP rfl rfl rfl (xix k un24 sz40 horr4.rd.sh rfl rfl (by omega) (by omega)) ?_
         refine LP rfl rfl rfl (xfa fa40_1 rfl) ?_
         refine LU rfl rfl (xste (z := (x4.1, -9)) sz2 rfl horr4 hx4 rfl rfl (by decide) rfl rfl) ?_
         rintro w70 ⟨hq23, ho16⟩
         have hk153 := hq23.bk (Ow.ni_old horr4 (Nat.lt_of_lt_of_le (bk_lt hb2) (Nat.le_trans hl6.size (Nat.le_trans hl7.size (Nat.le_trans hl8.size (Nat.le_trans hl9.size (Nat.le_trans hq1.size hl10.size))))))) hk131
         have hk154 := Lx.rdx2 hq23 hz3.rd rfl (dr_mem hmxr) hk132
         have hk155 := Lx.rdx2 hq23 hz4.rd rfl (dr_mem hmxr) hk133
         have hk156 := Lx.rdx2 hq23 hz5.rd rfl (dr_mem hmxr) hk134
         have hk157 := Lx.rdx2 hq23 hz6.rd rfl (dr_mem hmxr) hk135
         have hk158 := Lx.rdx2 hq23 hz7.rd rfl (dr_mem hmxr) hk136
         have hk159 := hq23.bk (Ow.ni_old horr4 (Nat.lt_of_lt_of_le (bk_lt hb3) (Nat.le_trans hl8.size (Nat.le_trans hl9.size (Nat.le_trans hq1.size hl10.size))))) hk137
         have hk160 := Lx.rdx2 hq23 hz8.rd rfl (dr_mem (fun i hi => List.mem_append_right _ (hmxr i hi))) hk138
         have hk161 := Lx.rdx2 hq23 hz9.rd rfl (dr_mem (fun i hi => List.mem_append_right _ (hmxr i hi))) hk139
         have hk162 := Lx.rdx2 hq23 hz10.rd rfl (dr_mem (fun i hi => List.mem_append_right _ (hmxr i hi))) hk140
         have hk163 := Lx.rdx2 hq23 hz11.rd rfl (dr_mem (fun i hi => List.mem_append_right _ (hmxr i hi))) hk141
         have hk164 := Lx.rdx2 hq23 hz12.rd rfl (dr_mem (fun i hi => List.mem_append_right _ (hmxr i hi))) hk142
         have hk165 := hq23.bk (Ow.ni_old horr4 (Nat.lt_of_lt_of_le (bk_lt hb4) (Nat.le_trans hq1.size hl10.size))) hk143
         have hk166 := hq23.ow (Ow.off_old hoxc horr4 (Nat.le_refl _)) hk144
         have hk167 := hq23.ow (Ow.off_new qoc1 hoxr (Nat.le_refl _)) hk145
         have hk168 := hq23.ow (Ow.off_new qoa1 hoxr (Nat.le_refl _)) hk146
         have hk169 := hq23.ow (Ow.off_new qor1 hoxr (Nat.le_refl _)) hk147
         have hk170 := hq23.ow (Ow.off_new qow1 hoxr (Nat.le_refl _)) hk148
         have hk171 := hq23.bk (Ow.ni_new hoxr hb37z qlx1.size) hk149
         have hk172 := Lx.rdx2 hq23 qor5.rd rfl (dr_mem (fun i hi => List.mem_append_right _ (hmxr i hi))) hk150
         have hk173 := Lx.rdx2 hq23 qow5.rd rfl (dr_mem (fun i hi => List.mem_append_right _ (hmxr i hi))) hk151
         have hk174 := hq23.bk (Ow.ni_new hoxr hb40z (Nat.le_trans qlx1.size (Nat.le_trans hl43.size (Nat.le_trans hq20.size qlx3.size)))) hk152
         refine ⟨trivial, ?_⟩
         refine LZ ?_
         refine F_block ?_
         refine F_seq ?_
         refine W_reg (.pure 0 (.pure 1 .nil)) rfl ?_
         refine LP rfl rfl rfl (xaddn rfl rfl (by omega)) ?_
         refine LP rfl rfl rfl (xmv rfl) ?_
         refine LZ ?_
         exact F_roundv ⟨k + 1, _⟩ ⟨(Lx.drop hq23 (Lx.drop hl46 (Lx.refl _ _) dr_self) dr_self), by omega, by rw [List.length_set]; exact hlrr4, ho16⟩ (by (try dsimp only); omega) (lk_loop 10 rfl rfl (hvc rfl hvn))
        · -- c9 no
         replace c9 := of_decide_eq_false c9
         refine W_exit ?_
         refine F_exit_then ?_
         refine F_exit_then ?_
         refine F_exit_here ?_
         refine F_seq ?_
         refine W_seq ?_
         refine W_seq ?_
         refine W_reg (.pure 0 (.pure 1 (.one 2 (.pure 3 (.pure 4 .nil))))) rfl ?_
         refine LP rfl rfl rfl (xfa fa36_1 rfl) ?_
         refine LP rfl rfl rfl (xfa fa26_2 rfl) ?_
         refine LX rfl rfl rfl (xld sc22 rfl (cl_bk hk149 rfl)) trivial ?_
         refine LP rfl rfl rfl (xlen un22 hk145.rd.sh rfl) ?_
         refine LP rfl rfl rfl (xmv rfl) ?_
         refine LZ ?_
         refine F_seq ?_
         refine W_block ?_
         have hb96 := (hk145).rd.sh.le
         refine W_loopv (ι := Nat × (List Int)) (fun ⟨k, rr5⟩ => [(96, .int .i64 (k : Int))]) (fun ⟨k, rr5⟩ w' => Lx qxc1.ownBlock.toList w69 w' ∧ k ≤ (normT (newC 2 2) ⟨t.se, t.rq, t.code, t.args, t.reads, t.writes⟩).code.length ∧ rr5.length = (normT (newC 2 2) ⟨t.se, t.rq, t.code, t.args, t.reads, t.writes⟩).code.length ∧ Ow w' w25 5 ByteE qxc1 rr5) (fun ⟨k, rr5⟩ => (normT (newC 2 2) ⟨t.se, t.rq, t.code, t.args, t.reads, t.writes⟩).code.length - k) ⟨0, (normT (newC 2 2) ⟨t.se, t.rq, t.code, t.args, t.reads, t.writes⟩).code⟩ (hvc rfl hvn) ⟨Lx.refl _ _, Nat.zero_le _, rfl, hk145⟩ ?_
         rintro ⟨k, rr5⟩ w71 ⟨hl47, hk, hlrr5, horr5⟩
         show W _ _ _ _ _ ([(96, .int .i64 (k : Int))] ++ _) _
         have hk175 := hl47.bk (Ow.ni_old hk145 (Nat.lt_of_lt_of_le (bk_lt hb2) (Nat.le_trans hl6.size (Nat.le_trans hl7.size (Nat.le_trans hl8.size (Nat.le_trans hl9.size (Nat.le_trans hq1.size (Nat.le_trans hl10.size hl22.size)))))))) hk131
         have hk176 := Lx.rdx2 hl47 hz3.rd rfl (dr_mem hmqxc1) hk132
         have hk177 := Lx.rdx2 hl47 hz4.rd rfl (dr_mem hmqxc1) hk133
         have hk178 := Lx.rdx2 hl47 hz5.rd rfl (dr_mem hmqxc1) hk134
         have hk179 := Lx.rdx2 hl47 hz6.rd rfl (dr_mem hmqxc1) hk135
         have hk180 := Lx.rdx2 hl47 hz7.rd rfl (dr_mem hmqxc1) hk136
         have hk181 := hl47.bk (Ow.ni_old hk145 (Nat.lt_of_lt_of_le (bk_lt hb3) (Nat.le_trans hl8.size (Nat.le_trans hl9.size (Nat.le_trans hq1.size (Nat.le_trans hl10.size hl22.size)))))) hk137
         have hk182 := Lx.rdx2 hl47 hz8.rd rfl (dr_mem (fun i hi => List.mem_append_right _ (hmqxc1 i hi))) hk138
         have hk183 := Lx.rdx2 hl47 hz9.rd rfl (dr_mem (fun i hi => List.mem_append_right _ (hmqxc1 i hi))) hk139
         have hk184 := Lx.rdx2 hl47 hz10.rd rfl (dr_mem (fun i hi => List.mem_append_right _ (hmqxc1 i hi))) hk140
         have hk185 := Lx.rdx2 hl47 hz11.rd rfl (dr_mem (fun i hi => List.mem_append_right _ (hmqxc1 i hi))) hk141
         have hk186 := Lx.rdx2 hl47 hz12.rd rfl (dr_mem (fun i hi => List.mem_append_right _ (hmqxc1 i hi))) hk142
         have hk187 := hl47.bk (Ow.ni_old hk145 (Nat.lt_of_lt_of_le (bk_lt hb4) (Nat.le_trans hq1.size (Nat.le_trans hl10.size hl22.size)))) hk143
         have hk188 := hl47.ow (Ow.off_old hoxc hk145 hl22.size) hk144
         have hk189 := hl47.ow (Ow.off_old hoxr hk145 (Nat.le_refl _)) horr4
         have hk190 := hl47.ow qof1 hk148
         have hk191 := hl47.bk (Ow.ni_new qoc1 hb37z (Nat.le_refl _)) hk149
         have hk192 := Lx.rdx2 hl47 qor5.rd rfl (dr_mem (fun i hi => List.mem_append_right _ (hmqxc1 i hi))) hk150
         have hk193 := Lx.rdx2 hl47 qow5.rd rfl (dr_mem (fun i hi => List.mem_append_right _ (hmqxc1 i hi))) hk151
         have hk194 := hl47.bk (Ow.ni_new qoc1 hb40z (Nat.le_trans hl43.size (Nat.le_trans hq20.size qlx3.size))) hk152
         refine W_seq ?_
         refine W_reg (.pure 0 .nil) rfl ?_
         refine LP rfl rfl rfl (xlss rfl rfl) ?_
         refine LZ ?_
         refine F_seq ?_
         refine W_seq ?_
         refine W_cond rfl (fun c10 => ?_) (fun c10 => ?_)
         · -- c10 yes
          replace c10 := of_decide_eq_true c10
          refine W_skip ?_
          refine F_seq ?_
          refine W_seq ?_
          refine W_block ?_
          refine W_seq ?_
          refine W_reg (.pure 0 (.pure 1 .nil)) rfl ?_
          refine LP rfl rfl rfl (xmv rfl) ?_
          refine LP rfl rfl rfl (xas rfl) ?_
          refine LZ ?_
          refine F_seq ?_
          refine W_reg (.pure 0 (.pure 1 (.one 2 (.pure 3 (.pure 4 (.one 5 .nil)))))) rfl ?_
          refine LP rfl rfl rfl (xfa fa36_1 rfl) ?_
          refine LP rfl rfl rfl (xfa fa26_2 rfl) ?_
          refine LX rfl rfl rfl (xld sc22 rfl (cl_bk hk191 rfl)) trivial ?_
          refine LP rfl rfl rfl (xmv rfl) ?_
          obtain ⟨x5, hx5⟩ : ∃ x, rr5[k]? = some x := ⟨_, List.getElem?_eq_getElem (by omega)⟩
          refine LP rfl rfl rfl (xix k un22 sz5 horr5.rd.sh rfl rfl (by omega) (by omega)) ?_
          refine LU rfl rfl (xst sz5 horr5 (by first | omega | (simp only [List.length_append, List.length_take, List.length_drop, List.length_cons, List.length_nil, List.length_set, List.length_replicate, maxLen]; omega)) rfl rfl rfl rfl) ?_
          rintro w72 ⟨hq24, ho17⟩
          have hk195 := hq24.bk (Ow.ni_old horr5 (Nat.lt_of_lt_of_le (bk_lt hb2) (Nat.le_trans hl6.size (Nat.le_trans hl7.size (Nat.le_trans hl8.size (Nat.le_trans hl9.size (Nat.le_trans hq1.size (Nat.le_trans hl10.size hl22.size)))))))) hk175
          have hk196 := Lx.rdx2 hq24 hz3.rd rfl (dr_mem hmqxc1) hk176
          have hk197 := Lx.rdx2 hq24 hz4.rd rfl (dr_mem hmqxc1) hk177
          have hk198 := Lx.rdx2 hq24 hz5.rd rfl (dr_mem hmqxc1) hk178
          have hk199 := Lx.rdx2 hq24 hz6.rd rfl (dr_mem hmqxc1) hk179
          have hk200 := Lx.rdx2 hq24 hz7.rd rfl (dr_mem hmqxc1) hk180
          have hk201 := hq24.bk (Ow.ni_old horr5 (Nat.lt_of_lt_of_le (bk_lt hb3) (Nat.le_trans hl8.size (Nat.le_trans hl9.size (Nat.le_trans hq1.size (Nat.le_trans hl10.size hl22.size)))))) hk181
          have hk202 := Lx.rdx2 hq24 hz8.rd rfl (dr_mem (fun i hi => List.mem_append_right _ (hmqxc1 i hi))) hk182
          have hk203 := Lx.rdx2 hq24 hz9.rd rfl (dr_mem (fun i hi => List.mem_append_right _ (hmqxc1 i hi))) hk183
          have hk204 := Lx.rdx2 hq24 hz10.rd rfl (dr_mem (fun i hi => List.mem_append_right _ (hmqxc1 i hi))) hk184
          have hk205 := Lx.rdx2 hq24 hz11.rd rfl (dr_mem (fun i hi => List.mem_append_right _ (hmqxc1 i hi))) hk185
          have hk206 := Lx.rdx2 hq24 hz12.rd rfl (dr_mem (fun i hi => List.mem_append_right _ (hmqxc1 i hi))) hk186
          have hk207 := hq24.bk (Ow.ni_old horr5 (Nat.lt_of_lt_of_le (bk_lt hb4) (Nat.le_trans hq1.size (Nat.le_trans hl10.size hl22.size)))) hk187
          have hk208 := hq24.ow (Ow.off_old hoxc horr5 hl22.size) hk188
          have hk209 := hq24.ow (Ow.off_old hoxr horr5 (Nat.le_refl _)) hk189
          have hk210 := hq24.ow qof1 hk190
          have hk211 := hq24.bk (Ow.ni_new qoc1 hb37z (Nat.le_refl _)) hk191
          have hk212 := Lx.rdx2 hq24 qor5.rd rfl (dr_mem (fun i hi => List.mem_append_right _ (hmqxc1 i hi))) hk192
          have hk213 := Lx.rdx2 hq24 qow5.rd rfl (dr_mem (fun i hi => List.mem_append_right _ (hmqxc1 i hi))) hk193
          have hk214 := hq24.bk (Ow.ni_new qoc1 hb40z (Nat.le_trans hl43.size (Nat.le_trans hq20.size qlx3.size))) hk194
          refine ⟨trivial, ?_⟩
          refine LZ ?_
          refine F_block ?_
          refine F_seq ?_
          refine W_reg (.pure 0 (.pure 1 .nil)) rfl ?_
          refine LP rfl rfl rfl (xaddn rfl rfl (by omega)) ?_
          refine LP rfl rfl rfl (xmv rfl) ?_
          refine LZ ?_
          exact F_roundv ⟨k + 1, _⟩ ⟨(Lx.drop hq24 (Lx.drop hl47 (Lx.refl _ _) dr_self) dr_self), by omega, by rw [List.length_set]; exact hlrr5, ho17⟩ (by (try dsimp only); omega) (lk_loop 10 rfl rfl (hvc rfl hvn))
         · -- c10 no
          replace c10 := of_decide_eq_false c10
          refine W_exit ?_
          refine F_exit_then ?_
          refine F_exit_then ?_
          refine F_exit_here ?_
          refine F_seq ?_
          refine W_seq ?_
          refine W_seq ?_
          refine W_reg (.pure 0 (.pure 1 (.one 2 (.pure 3 (.pure 4 .nil))))) rfl ?_
          refine LP rfl rfl rfl (xfa fa36_1 rfl) ?_
          refine LP rfl rfl rfl (xfa fa26_5 rfl) ?_
          refine LX rfl rfl rfl (xld sc24 rfl (cl_bk hk191 rfl)) trivial ?_
          refine LP rfl rfl rfl (xlen un24 hk190.rd.sh rfl) ?_
          refine LP rfl rfl rfl (xmv rfl) ?_
          refine LZ ?_
          refine F_seq ?_
          refine W_block ?_
          have hb109 := (hk190).rd.sh.le
          refine W_loopv (ι := Nat × (List Key)) (fun ⟨k, rr6⟩ => [(109, .int .i64 (k : Int))]) (fun ⟨k, rr6⟩ w' => Lx qxw1.ownBlock.toList w71 w' ∧ k ≤ (normT (newC 2 2) ⟨t.se, t.rq, t.code, t.args, t.reads, t.writes⟩).writes.length ∧ rr6.length = (normT (newC 2 2) ⟨t.se, t.rq, t.code, t.args, t.reads, t.writes⟩).writes.length ∧ Ow w' w25 40 KeyE qxw1 rr6) (fun ⟨k, rr6⟩ => (normT (newC 2 2) ⟨t.se, t.rq, t.code, t.args, t.reads, t.writes⟩).writes.length - k) ⟨0, (normT (newC 2 2) ⟨t.se, t.rq, t.code, t.args, t.reads, t.writes⟩).writes⟩ (hvc rfl hvn) ⟨Lx.refl _ _, Nat.zero_le _, rfl, hk190⟩ ?_
          rintro ⟨k, rr6⟩ w73 ⟨hl48, hk, hlrr6, horr6⟩
          show W _ _ _ _ _ ([(109, .int .i64 (k : Int))] ++ _) _
          have hk215 := hl48.bk (Ow.ni_old hk190 (Nat.lt_of_lt_of_le (bk_lt hb2) (Nat.le_trans hl6.size (Nat.le_trans hl7.size (Nat.le_trans hl8.size (Nat.le_trans hl9.size (Nat.le_trans hq1.size (Nat.le_trans hl10.size hl22.size)))))))) hk175
          have hk216 := Lx.rdx2 hl48 hz3.rd rfl (dr_mem hmqxw1) hk176
          have hk217 := Lx.rdx2 hl48 hz4.rd rfl (dr_mem hmqxw1) hk177
          have hk218 := Lx.rdx2 hl48 hz5.rd rfl (dr_mem hmqxw1) hk178
          have hk219 := Lx.rdx2 hl48 hz6.rd rfl (dr_mem hmqxw1) hk179
          have hk220 := Lx.rdx2 hl48 hz7.rd rfl (dr_mem hmqxw1) hk180
          have hk221 := hl48.bk (Ow.ni_old hk190 (Nat.lt_of_lt_of_le (bk_lt hb3) (Nat.le_trans hl8.size (Nat.le_trans hl9.size (Nat.le_trans hq1.size (Nat.le_trans hl10.size hl22.size)))))) hk181
          have hk222 := Lx.rdx2 hl48 hz8.rd rfl (dr_mem (fun i hi => List.mem_append_right _ (hmqxw1 i hi))) hk182
          have hk223 := Lx.rdx2 hl48 hz9.rd rfl (dr_mem (fun i hi => List.mem_append_right _ (hmqxw1 i hi))) hk183
          have hk224 := Lx.rdx2 hl48 hz10.rd rfl (dr_mem (fun i hi => List.mem_append_right _ (hmqxw1 i hi))) hk184
          have hk225 := Lx.rdx2 hl48 hz11.rd rfl (dr_mem (fun i hi => List.mem_append_right _ (hmqxw1 i hi))) hk185
          have hk226 := Lx.rdx2 hl48 hz12.rd rfl (dr_mem (fun i hi => List.mem_append_right _ (hmqxw1 i hi))) hk186
          have hk227 := hl48.bk (Ow.ni_old hk190 (Nat.lt_of_lt_of_le (bk_lt hb4) (Nat.le_trans hq1.size (Nat.le_trans hl10.size hl22.size)))) hk187
          have hk228 := hl48.ow (Ow.off_old hoxc hk190 hl22.size) hk188
          have hk229 := hl48.ow (Ow.off_old hoxr hk190 (Nat.le_refl _)) hk189
          have hk230 := hl48.bk (Ow.ni_new qow1 hb37z (Nat.le_refl _)) hk191
          have hk231 := Lx.rdx2 hl48 qor5.rd rfl (dr_mem (fun i hi => List.mem_append_right _ (hmqxw1 i hi))) hk192
          have hk232 := Lx.rdx2 hl48 qow5.rd rfl (dr_mem (fun i hi => List.mem_append_right _ (hmqxw1 i hi))) hk193
          have hk233 := hl48.bk (Ow.ni_new qow1 hb40z (Nat.le_trans hl43.size (Nat.le_trans hq20.size qlx3.size))) hk194
          refine W_seq ?_
          refine W_reg (.pure 0 .nil) rfl ?_
          refine LP rfl rfl rfl (xlss rfl rfl) ?_
          refine LZ ?_
          refine F_seq ?_
          refine W_seq ?_
          refine W_cond rfl (fun c11 => ?_) (fun c11 => ?_)
          · -- c11 yes
           replace c11 := of_decide_eq_true c11
           refine W_skip ?_
           refine F_seq ?_
           refine W_seq ?_
           refine W_block ?_
           refine W_seq ?_
           refine W_reg (.pure 0 (.pure 1 .nil)) rfl ?_
           refine LP rfl rfl rfl (xmv rfl) ?_
           refine LP rfl rfl rfl (xas rfl) ?_
           refine LZ ?_
           refine F_seq ?_
           refine W_reg (.pure 0 (.pure 1 (.one 2 (.pure 3 (.pure 4 (.pure 5 (.one 6 .nil))))))) rfl ?_
           refine LP rfl rfl rfl (xfa fa36_1 rfl) ?_
           refine LP rfl rfl rfl (xfa fa26_5 rfl) ?_
           refine LX rfl rfl rfl (xld sc24 rfl (cl_bk hk230 rfl)) trivial ?_
           refine LP rfl rfl rfl (xmv rfl) ?_
           obtain ⟨x6, hx6⟩ : ∃ x, rr6[k]? = some x := ⟨_, List.getElem?_eq_getElem (by omega)⟩
           refine LP rfl rfl rfl (xix k un24 sz40 horr6.rd.sh rfl rfl (by omega) (by omega)) ?_
           refine LP rfl rfl rfl (xfa fa40_1 rfl) ?_
           refine LU rfl rfl (xste (z := (x6.1, -9)) sz2 rfl horr6 hx6 rfl rfl (by decide) rfl rfl) ?_
           rintro w74 ⟨hq25, ho18⟩
           have hk234 := hq25.bk (Ow.ni_old horr6 (Nat.lt_of_lt_of_le (bk_lt hb2) (Nat.le_trans hl6.size (Nat.le_trans hl7.size (Nat.le_trans hl8.size (Nat.le_trans hl9.size (Nat.le_trans hq1.size (Nat.le_trans hl10.size hl22.size)))))))) hk215
           have hk235 := Lx.rdx2 hq25 hz3.rd rfl (dr_mem hmqxw1) hk216
           have hk236 := Lx.rdx2 hq25 hz4.rd rfl (dr_mem hmqxw1) hk217
           have hk237 := Lx.rdx2 hq25 hz5.rd rfl (dr_mem hmqxw1) hk218
           have hk238 := Lx.rdx2 hq25 hz6.rd rfl (dr_mem hmqxw1) hk219
           have hk239 := Lx.rdx2 hq25 hz7.rd rfl (dr_mem hmqxw1) hk220
           have hk240 := hq25.bk (Ow.ni_old horr6 (Nat.lt_of_lt_of_le (bk_lt hb3) (Nat.le_trans hl8.size (Nat.le_trans hl9.size (Nat.le_trans hq1.size (Nat.le_trans hl10.size hl22.size)))))) hk221
           have hk241 := Lx.rdx2 hq25 hz8.rd rfl (dr_mem (fun i hi => List.mem_append_right _ (hmqxw1 i hi))) hk222
           have hk242 := Lx.rdx2 hq25 hz9.rd rfl (dr_mem (fun i hi => List.mem_append_right _ (hmqxw1 i hi))) hk223
           have hk243 := Lx.rdx2 hq25 hz10.rd rfl (dr_mem (fun i hi => List.mem_append_right _ (hmqxw1 i hi))) hk224
           have hk244 := Lx.rdx2 hq25 hz11.rd rfl (dr_mem (fun i hi => List.mem_append_right _ (hmqxw1 i hi))) hk225
           have hk245 := Lx.rdx2 hq25 hz12.rd rfl (dr_mem (fun i hi => List.mem_append_right _ (hmqxw1 i hi))) hk226
           have hk246 := hq25.bk (Ow.ni_old horr6 (Nat.lt_of_lt_of_le (bk_lt hb4) (Nat.le_trans hq1.size (Nat.le_trans hl10.size hl22.size)))) hk227
           have hk247 := hq25.ow (Ow.off_old hoxc horr6 hl22.size) hk228
           have hk248 := hq25.ow (Ow.off_old hoxr horr6 (Nat.le_refl _)) hk229
           have hk249 := hq25.bk (Ow.ni_new qow1 hb37z (Nat.le_refl _)) hk230
           have hk250 := Lx.rdx2 hq25 qor5.rd rfl (dr_mem (fun i hi => List.mem_append_right _ (hmqxw1 i hi))) hk231
           have hk251 := Lx.rdx2 hq25 qow5.rd rfl (dr_mem (fun i hi => List.mem_append_right _ (hmqxw1 i hi))) hk232
           have hk252 := hq25.bk (Ow.ni_new qow1 hb40z (Nat.le_trans hl43.size (Nat.le_trans hq20.size qlx3.size))) hk233
           refine ⟨trivial, ?_⟩
           refine LZ ?_
           refine F_block ?_
           refine F_seq ?_
           refine W_reg (.pure 0 (.pure 1 .nil)) rfl ?_
           refine LP rfl rfl rfl (xaddn rfl rfl (by omega)) ?_
           refine LP rfl rfl rfl (xmv rfl) ?_
           refine LZ ?_
           exact F_roundv ⟨k + 1, _⟩ ⟨(Lx.drop hq25 (Lx.drop hl48 (Lx.refl _ _) dr_self) dr_self), by omega, by rw [List.length_set]; exact hlrr6, ho18⟩ (by (try dsimp only); omega) (lk_loop 11 rfl rfl (hvc rfl hvn))
          · -- c11 no
           replace c11 := of_decide_eq_false c11
           refine W_exit ?_
           refine F_exit_then ?_
           refine F_exit_then ?_
           refine F_exit_here ?_
           refine F_seq ?_
           refine W_seq ?_
           refine W_reg (.pure 0 (.one 1 (.pure 2 (.pure 3 (.pure 4 (.one 5 (.one 6 (.pure 7 .nil)))))))) rfl ?_
           refine LP rfl rfl rfl (xmv rfl) ?_
           refine LF rfl rfl rfl has19_D1 rfl (c_pending (S := ([b19, b20] ++ S)) (⟨_, _, _, _, _, hk215, (RdX.more hk216 hz3.rd rfl (inc (Nat.le_refl _) hb37z (inc (Nat.le_trans hl43.size (Nat.le_trans hq20.size qlx3.size)) hb40z inn))), (RdX.more hk217 hz4.rd rfl (inc (Nat.le_refl _) hb37z (inc (Nat.le_trans hl43.size (Nat.le_trans hq20.size qlx3.size)) hb40z inn))), (RdX.more hk218 hz5.rd rfl (inc (Nat.le_refl _) hb37z (inc (Nat.le_trans hl43.size (Nat.le_trans hq20.size qlx3.size)) hb40z inn))), (RdX.more hk219 hz6.rd rfl (inc (Nat.le_refl _) hb37z (inc (Nat.le_trans hl43.size (Nat.le_trans hq20.size qlx3.size)) hb40z inn))), (RdX.more hk220 hz7.rd rfl (inc (Nat.le_refl _) hb37z (inc (Nat.le_trans hl43.size (Nat.le_trans hq20.size qlx3.size)) hb40z inn)))⟩ : Cl ([b19, b20] ++ S) w73 116 b2 (submitC (newC 2 2) ⟨t.se, t.rq, t.code, t.args, t.reads, t.writes⟩ (0 : Int))) (submitC_ok (newC_ok (se := 2) (reps := 2) rfl) hsm qeq1) (List.mem_append_right _ hmc) (lt_app (lt_cons (Nat.lt_of_lt_of_le (bk_lt hb37) (Nat.le_trans hq20.size (Nat.le_trans qlx3.size (Nat.le_trans hl44.size (Nat.le_trans hq21.size (Nat.le_trans hl45.size (Nat.le_trans hl46.size (Nat.le_trans hl47.size hl48.size)))))))) (lt_cons (Nat.lt_of_lt_of_le (bk_lt hb40) (Nat.le_trans hq21.size (Nat.le_trans hl45.size (Nat.le_trans hl46.size (Nat.le_trans hl47.size hl48.size))))) lt_nil)) (lt_le hS (Nat.le_trans hl43.size (Nat.le_trans hq20.size (Nat.le_trans qlx3.size (Nat.le_trans hl44.size (Nat.le_trans hq21.size (Nat.le_trans hl45.size (Nat.le_trans hl46.size (Nat.le_trans hl47.size hl48.size)))))))))) ) ?_
           rintro _ w75 (⟨qf5, rfl, qle8⟩ | ⟨qf6, qxc4, qxa4, qxr6, qxw6, rfl, qle9, qoc4, qoa4, qor6, qow6⟩)
           ·
            exact absurd qf5 (by simp [submitC, newC])
           ·
            refine ⟨trivial, ?_⟩
            refine LP rfl rfl rfl (xmv rfl) ?_
            refine LP rfl rfl rfl (xext rfl rfl) ?_
            refine LP rfl rfl rfl (xext rfl rfl) ?_
            refine LT rfl rfl rfl (xal zr26) ?_
            rintro _ w76 ⟨b21, rfl, hl49, hb42, hb42z⟩
            refine ⟨trivial, ?_⟩
            refine LU rfl rfl (xsb sz26 hb42 rfl rfl (agg_cells _) rfl rfl (al_cons rfl (al_cons rfl (al_cons qoc4.rd.sh.one (al_cons qoa4.rd.sh.one (al_cons qor6.rd.sh.one (al_cons qow6.rd.sh.one al_nil))))))) ?_
            rintro w77 ⟨hq26, hb43⟩
            dsimp only [put] at hb43
            refine ⟨trivial, ?_⟩
            refine LP rfl rfl rfl (xas rfl) ?_
            refine LZ ?_
            refine F_seq ?_
            refine W_seq ?_
            refine W_reg (.pure 0 (.one 1 (.pure 2 (.pure 3 (.pure 4 (.one 5 (.one 6 (.pure 7 .nil)))))))) rfl ?_
            refine LP rfl rfl rfl (xmv rfl) ?_
            have le60 : Le w73 w77 := (hq26.le (qle9.trans hl49) (inc qle9.size hb42z inn))
            refine LF rfl rfl rfl has20_D1 rfl (r_pending (S := ([b1, b19, b4] ++ S)) (⟨_, _, _, _, _, (Le.bk le60 hk221), (Le.rdx le60 hk222), (Le.rdx le60 hk223), (Le.rdx le60 hk224), (Le.rdx le60 hk225), (Le.rdx le60 hk226)⟩ : Cl ([b1, b19, b4] ++ S) w77 118 b3 (submitC (newC 2 2) ⟨t.se, t.rq, t.code, t.args, t.reads, t.writes⟩ (0 : Int))) (submitC_ok (newC_ok (se := 2) (reps := 2) rfl) hsm qeq3) (List.mem_append_right _ hmw) (lt_app (lt_cons (Nat.lt_of_lt_of_le (bk_lt hb1) (Nat.le_trans hl3.size (Nat.le_trans hl4.size (Nat.le_trans hl6.size (Nat.le_trans hl7.size (Nat.le_trans hl8.size (Nat.le_trans hl9.size (Nat.le_trans hq1.size (Nat.le_trans hl10.size (Nat.le_trans hl22.size (Nat.le_trans qlx1.size (Nat.le_trans hl43.size (Nat.le_trans hq20.size (Nat.le_trans qlx3.size (Nat.le_trans hl44.size (Nat.le_trans hq21.size (Nat.le_trans hl45.size (Nat.le_trans hl46.size (Nat.le_trans hl47.size (Nat.le_trans hl48.size (Nat.le_trans qle9.size (Nat.le_trans hl49.size hq26.size)))))))))))))))))))))) (lt_cons (Nat.lt_of_lt_of_le (bk_lt hb37) (Nat.le_trans hq20.size (Nat.le_trans qlx3.size (Nat.le_trans hl44.size (Nat.le_trans hq21.size (Nat.le_trans hl45.size (Nat.le_trans hl46.size (Nat.le_trans hl47.size (Nat.le_trans hl48.size (Nat.le_trans qle9.size (Nat.le_trans hl49.size hq26.size))))))))))) (lt_cons (Nat.lt_of_lt_of_le (bk_lt hb4) (Nat.le_trans hq1.size (Nat.le_trans hl10.size (Nat.le_trans hl22.size (Nat.le_trans qlx1.size (Nat.le_trans hl43.size (Nat.le_trans hq20.size (Nat.le_trans qlx3.size (Nat.le_trans hl44.size (Nat.le_trans hq21.size (Nat.le_trans hl45.size (Nat.le_trans hl46.size (Nat.le_trans hl47.size (Nat.le_trans hl48.size (Nat.le_trans qle9.size (Nat.le_trans hl49.size hq26.size)))))))))))))))) lt_nil))) (lt_le hS (Nat.le_trans hl43.size (Nat.le_trans hq20.size (Nat.le_trans qlx3.size (Nat.le_trans hl44.size (Nat.le_trans hq21.size (Nat.le_trans hl45.size (Nat.le_trans hl46.size (Nat.le_trans hl47.size (Nat.le_trans hl48.size (Nat.le_trans qle9.size (Nat.le_trans hl49.size hq26.size))))))))))))) ) ?_
            rintro _ w78 (⟨qf7, rfl, qle10⟩ | ⟨qf8, qxc5, qxa5, qxr7, qxw7, rfl, qle11, qoc5, qoa5, qor7, qow7⟩)
            ·
             exact absurd qf7 (by simp [submitC, newC])
            ·
             refine ⟨trivial, ?_⟩
             refine LP rfl rfl rfl (xmv rfl) ?_
             refine LP rfl rfl rfl (xext rfl rfl) ?_
             refine LP rfl rfl rfl (xext rfl rfl) ?_
             refine LT rfl rfl rfl (xal zr26) ?_
             rintro _ w79 ⟨b22, rfl, hl50, hb44, hb44z⟩
             refine ⟨trivial, ?_⟩
             refine LU rfl rfl (xsb sz26 hb44 rfl rfl (agg_cells _) rfl rfl (al_cons rfl (al_cons rfl (al_cons qoc5.rd.sh.one (al_cons qoa5.rd.sh.one (al_cons qor7.rd.sh.one (al_cons qow7.rd.sh.one al_nil))))))) ?_
             rintro w80 ⟨hq27, hb45⟩
             dsimp only [put] at hb45
             refine ⟨trivial, ?_⟩
             refine LP rfl rfl rfl (xas rfl) ?_
             refine LZ ?_
             refine F_seq ?_
             refine W_seq ?_
             refine W_reg (.pure 0 (.pure 1 (.pure 2 (.pure 3 (.one 4 (.one 5 (.one 6 (.pure 7 (.pure 8 .nil))))))))) rfl ?_
             refine LP rfl rfl rfl (xmv rfl) ?_
             refine LP rfl rfl rfl (xmv rfl) ?_
             refine LP rfl rfl rfl (xbeq un4 rfl rfl) ?_
             refine L_is 131 (v := .bool true) rfl (by simp) ?_
             refine LP rfl rfl rfl (xmv rfl) ?_
             have le61 : Le w77 w80 := (hq27.le (qle11.trans hl50) (inc qle11.size hb44z inn))
             refine LX rfl rfl rfl (xlb6 ag26 (Le.bk le61 hb43) rfl rfl rfl rfl rfl rfl rfl) trivial ?_
             refine LX rfl rfl rfl (xlb6 ag26 hb45 rfl rfl rfl rfl rfl rfl rfl) trivial ?_
             have le62 : Le w75 w77 := (hq26.le hl49 (inc (Nat.le_refl _) hb42z inn))
             have le63 : Le w75 w80 := (hq27.le (le62.trans (qle11.trans hl50)) (inc (Nat.le_trans hl49.size (Nat.le_trans hq26.size qle11.size)) hb44z inn))
             have le64 : Le w78 w80 := (hq27.le hl50 (inc (Nat.le_refl _) hb44z inn))
             refine LF rfl rfl rfl has21 rfl (txnSame (t := ⟨(submitC (newC 2 2) ⟨t.se, t.rq, t.code, t.args, t.reads, t.writes⟩ (0 : Int)).t.se, (submitC (newC 2 2) ⟨t.se, t.rq, t.code, t.args, t.reads, t.writes⟩ (0 : Int)).t.rq, (submitC (newC 2 2) ⟨t.se, t.rq, t.code, t.args, t.reads, t.writes⟩ (0 : Int)).t.code, (submitC (newC 2 2) ⟨t.se, t.rq, t.code, t.args, t.reads, t.writes⟩ (0 : Int)).t.args, (submitC (newC 2 2) ⟨t.se, t.rq, t.code, t.args, t.reads, t.writes⟩ (0 : Int)).t.reads, (submitC (newC 2 2) ⟨t.se, t.rq, t.code, t.args, t.reads, t.writes⟩ (0 : Int)).t.writes⟩) (RdE.le le63 qoc4.rd) (RdE.le le63 qoa4.rd) (RdE.le le63 qor6.rd) (RdE.le le63 qow6.rd) (RdE.le le64 qoc5.rd) (RdE.le le64 qoa5.rd) (RdE.le le64 qor7.rd) (RdE.le le64 qow7.rd)) ?_
             rintro _ w81 ⟨rfl, hl51⟩
             refine ⟨trivial, ?_⟩
             refine LP rfl rfl rfl (xpk1 rfl rfl) ?_
             refine LP rfl rfl rfl (xas rfl) ?_
             refine LZ ?_
             refine F_seq ?_
             refine W_ret ?_
             have le65 : Le w w64 := (qlx3.le le58 (inc (Nat.le_trans hl1.size (Nat.le_trans hl3.size (Nat.le_trans hl4.size hl6.size))) hz2 inn))
             have le66 : Le w w66 := (hq21.le (le65.trans hl44) (inc (Nat.le_trans hl1.size (Nat.le_trans hl3.size (Nat.le_trans hl4.size (Nat.le_trans hl6.size (Nat.le_trans hl7.size (Nat.le_trans hl8.size (Nat.le_trans hl9.size (Nat.le_trans hq1.size (Nat.le_trans hl10.size (Nat.le_trans hl22.size (Nat.le_trans qlx1.size (Nat.le_trans hl43.size (Nat.le_trans hq20.size qlx3.size))))))))))))) hb40z inn))
             have le67 : Le w w67 := (hl45.le le66 (Ow.since (hk76.le le59) (Nat.le_trans hl1.size (Nat.le_trans hl3.size (Nat.le_trans hl4.size (Nat.le_trans hl6.size (Nat.le_trans hl7.size (Nat.le_trans hl8.size (Nat.le_trans hl9.size hq1.size)))))))))
             have le68 : Le w w69 := (hl46.le le67 (Ow.since hk98 (Nat.le_trans hl1.size (Nat.le_trans hl3.size (Nat.le_trans hl4.size (Nat.le_trans hl6.size (Nat.le_trans hl7.size (Nat.le_trans hl8.size (Nat.le_trans hl9.size (Nat.le_trans hq1.size hl10.size))))))))))
             have le69 : Le w w71 := (hl47.le le68 (Ow.since hk145 (Nat.le_trans hl1.size (Nat.le_trans hl3.size (Nat.le_trans hl4.size (Nat.le_trans hl6.size (Nat.le_trans hl7.size (Nat.le_trans hl8.size (Nat.le_trans hl9.size (Nat.le_trans hq1.size (Nat.le_trans hl10.size hl22.size)))))))))))
             have le70 : Le w w73 := (hl48.le le69 (Ow.since hk190 (Nat.le_trans hl1.size (Nat.le_trans hl3.size (Nat.le_trans hl4.size (Nat.le_trans hl6.size (Nat.le_trans hl7.size (Nat.le_trans hl8.size (Nat.le_trans hl9.size (Nat.le_trans hq1.size (Nat.le_trans hl10.size hl22.size)))))))))))
             have le71 : Le w w77 := (hq26.le (le70.trans (qle9.trans hl49)) (inc (Nat.le_trans hl1.size (Nat.le_trans hl3.size (Nat.le_trans hl4.size (Nat.le_trans hl6.size (Nat.le_trans hl7.size (Nat.le_trans hl8.size (Nat.le_trans hl9.size (Nat.le_trans hq1.size (Nat.le_trans hl10.size (Nat.le_trans hl22.size (Nat.le_trans qlx1.size (Nat.le_trans hl43.size (Nat.le_trans hq20.size (Nat.le_trans qlx3.size (Nat.le_trans hl44.size (Nat.le_trans hq21.size (Nat.le_trans hl45.size (Nat.le_trans hl46.size (Nat.le_trans hl47.size (Nat.le_trans hl48.size qle9.size)))))))))))))))))))) hb42z inn))
             have le72 : Le w w80 := (hq27.le (le71.trans (qle11.trans hl50)) (inc (Nat.le_trans hl1.size (Nat.le_trans hl3.size (Nat.le_trans hl4.size (Nat.le_trans hl6.size (Nat.le_trans hl7.size (Nat.le_trans hl8.size (Nat.le_trans hl9.size (Nat.le_trans hq1.size (Nat.le_trans hl10.size (Nat.le_trans hl22.size (Nat.le_trans qlx1.size (Nat.le_trans hl43.size (Nat.le_trans hq20.size (Nat.le_trans qlx3.size (Nat.le_trans hl44.size (Nat.le_trans hq21.size (Nat.le_trans hl45.size (Nat.le_trans hl46.size (Nat.le_trans hl47.size (Nat.le_trans hl48.size (Nat.le_trans qle9.size (Nat.le_trans hl49.size (Nat.le_trans hq26.size qle11.size))))))))))))))))))))))) hb44z inn))
             exact F_end1 rfl rfl ⟨_, rfl, rfl, (le72.trans hl51)⟩
end Go.Proofs.Ythmhbonhagjnnaa
