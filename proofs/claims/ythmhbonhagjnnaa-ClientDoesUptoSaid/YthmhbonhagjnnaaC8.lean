/- A call, done with both. -/
import Derived.Test.YthmhbonhagjnnaaProg
import Derived.Test.YthmhbonhagjnnaaC7
import Derived.KernelRfl
namespace Go.Proofs.Ythmhbonhagjnnaa
open Go.RowKit
set_option linter.unusedVariables false
set_option linter.unusedSimpArgs false
theorem fa57_0 : FA Try.prog 57 0 0 := fun _ _ _ => by kernel_rfl
theorem fa57_1 : FA Try.prog 57 1 1 := fun _ _ _ => by kernel_rfl
theorem fa57_2 : FA Try.prog 57 2 7 := fun _ _ _ => by kernel_rfl
theorem has17 : Has Try.prog 17 Try.f17 := ⟨Try.func17, by kernel_rfl, rfl⟩
theorem has18 : Has Try.prog 18 Try.f18 := ⟨Try.func18, by kernel_rfl, rfl⟩
theorem has69 : Has Try.prog 69 Try.f69 := ⟨Try.func69, by kernel_rfl, rfl⟩
theorem has57 : Has Try.prog 57 Try.f57 := ⟨Try.func57, by kernel_rfl, rfl⟩
theorem has70 : Has Try.prog 70 Try.f70 := ⟨Try.func70, by kernel_rfl, rfl⟩
theorem fa57_4 : FA Try.prog 57 4 14 := fun _ _ _ => by kernel_rfl
theorem fa57_3 : FA Try.prog 57 3 8 := fun _ _ _ => by kernel_rfl
theorem ag52 : Ag Try.prog 52 6 := ⟨fun _ => by kernel_rfl, fun _ => by kernel_rfl⟩
theorem has58 : Has Try.prog 58 Try.f58 := ⟨Try.func58, by kernel_rfl, rfl⟩
theorem has71 : Has Try.prog 71 Try.f71 := ⟨Try.func71, by kernel_rfl, rfl⟩
theorem fa57_5 : FA Try.prog 57 5 15 := fun _ _ _ => by kernel_rfl
theorem has72 : Has Try.prog 72 Try.f72 := ⟨Try.func72, by kernel_rfl, rfl⟩
theorem has73 : Has Try.prog 73 Try.f73 := ⟨Try.func73, by kernel_rfl, rfl⟩
theorem fa57_6 : FA Try.prog 57 6 16 := fun _ _ _ => by kernel_rfl
theorem ag55 : Ag Try.prog 55 3 := ⟨fun _ => by kernel_rfl, fun _ => by kernel_rfl⟩
theorem has74 : Has Try.prog 74 Try.f74 := ⟨Try.func74, by kernel_rfl, rfl⟩
theorem has75 : Has Try.prog 75 Try.f75 := ⟨Try.func75, by kernel_rfl, rfl⟩
theorem has76 : Has Try.prog 76 Try.f76 := ⟨Try.func76, by kernel_rfl, rfl⟩
theorem bd50_2i : ∀ (x2_0 : Int), BD Try.prog 50 [(2, .int .i64 x2_0)] #[.int .i64 0, .slice none 0 0, .int .i64 x2_0, .int .i64 0] := fun _ => fun _ => by kernel_rfl
theorem bd52_0iiisii_1iiisii_2iiisii : ∀ (x0_0 : Int) (x1_0 : Int) (x2_0 : Int) (Ax2_1 : Option Addr) (nx2_1 cx2_1 : Nat) (x2_2 : Int) (x2_3 : Int), BD Try.prog 52 [(0, .int .i64 x0_0), (1, .int .i64 x1_0), (2, .agg #[.int .i64 x2_0, .slice Ax2_1 nx2_1 cx2_1, .int .i64 x2_2, .int .i64 x2_3])] #[.int .i64 x0_0, .int .i64 x1_0, .int .i64 x2_0, .slice Ax2_1 nx2_1 cx2_1, .int .i64 x2_2, .int .i64 x2_3] := fun _ _ _ _ _ _ _ _ => fun _ => by kernel_rfl
theorem sz27 : ∀ w, (sizeOf 27).run Try.prog w = .ok 1 w := fun _ => by kernel_rfl
theorem p_does {S : List Nat} {bp bc bw : Nat} {c : Cli} {o : LOp} {vtc vta vtr vtw vx vk vp : Value} {w : World} (hP : PairI S w bp bc bw c) (ho : o.small) (htc : RdX S w.heap ByteE vtc o.t.code) (hta : RdX S w.heap IntE vta o.t.args) (htr : RdX S w.heap KeyE vtr o.t.reads) (htw : RdX S w.heap KeyE vtw o.t.writes) (hx : RdX S w.heap IntE vx o.a.r.vals) (hk : RdX S w.heap KeyE vk o.keys) (hp : RdX S w.heap PairE vp o.fp) :
    Fn Try.prog 22 #[.pointer (some ⟨bp, 0, none⟩), (.agg #[.int .i64 o.kind, .int .i64 o.t.se, .int .i64 o.t.rq, vtc, vta, vtr, vtw, .int .i64 o.rep, .int .i64 o.a.se, .int .i64 o.a.rq, .int .i64 o.a.r.e, vx, .int .i64 o.a.r.slot, .int .i64 o.a.r.place, .bool o.own, vk, .int .i64 o.fe, .int .i64 o.fi, vp])] w fun v w' => ∃ S' bc' c', v = .bool true ∧ Lx S w w' ∧ PairI S' w' bp bc' bw c' ∧ ∀ i ∈ S', i ∈ S ∨ w.heap.size ≤ i := by
 refine Fn.enter 219 [(0, _), (1, _)] Try.func22 rfl rfl rfl rfl ?_
 obtain ⟨hpP, hc, hw, hmp, hmc, hmw, hok, hlz, hS⟩ := hP
 obtain ⟨z1, z2, z3, z4, z5, hb1, hz1, hz2, hz3, hz4, hz5⟩ := id hc
 obtain ⟨z6, z7, z8, z9, z10, hb2, hz6, hz7, hz8, hz9, hz10⟩ := id hw
 have n1 : bp ≠ bc := bk_ne hpP hb1 rfl
 have n2 : bp ≠ bw := bk_ne hpP hb2 rfl
 have n3 : bc ≠ bw := bk_ne hb1 hb2 rfl
 refine W_seq ?_
 refine W_reg (.one 0 (.pure 1 .nil)) rfl ?_
 refine LT rfl rfl rfl (xbox rfl) ?_
 rintro _ w1 ⟨b1, rfl, hl1, hb3, hb3z⟩
 refine ⟨trivial, ?_⟩
 refine LP rfl rfl rfl (xas rfl) ?_
 refine LZ ?_
 refine F_seq ?_
 refine W_seq ?_
 refine W_seq ?_
 refine W_reg (.pure 0 (.one 1 .nil)) rfl ?_
 refine LP rfl rfl rfl (xfa fa57_0 rfl) ?_
 refine LX rfl rfl rfl (xld sc3 rfl (cl_bk hb3 rfl)) trivial ?_
 refine LZ ?_
 refine F_seq ?_
 refine W_block ?_
 refine W_seq ?_
 refine W_reg (.pure 0 (.pure 1 .nil)) rfl ?_
 refine LP rfl rfl rfl (xeql rfl rfl) ?_
 refine LP rfl rfl rfl (xas rfl) ?_
 refine LZ ?_
 refine F_seq ?_
 refine W_cond rfl (fun c1 => ?_) (fun c1 => ?_)
 · -- c1 yes
  replace c1 := of_decide_eq_true c1
  refine W_seq ?_
  refine W_draw (.pure 0 (.pure 1 (.pure 2 (.still 3 (.pure 4 (.still 5 (.pure 6 (.still 7 (.two 8 12 (.pure 9 (.pure 10 (.pure 11 (.one 12 (.tail 13 (.pure 14 .nil)))))) (.one 8 (.pure 9 (.pure 10 (.pure 11 (.tail 13 (.pure 14 .nil))))))))))))))) (Lx [bc] w1) hfol (by kernel_rfl) (pkt (pkb (pkt pkB))) (Le.drew _).lx ?_
  refine LP rfl rfl rfl (xmv rfl) ?_
  refine LP rfl rfl rfl (xnc rfl) ?_
  refine LP rfl rfl rfl (xfa fa48_0 rfl) ?_
  refine LS rfl rfl rfl (fun w' hw' => (xld sc27 rfl (cl_bk (hw'.bk (ni_ne n1 ni_nil) (Le.bk hl1 hpP)) rfl))) ?_
  refine LP rfl rfl rfl (xfa fa57_1 rfl) ?_
  refine LS rfl rfl rfl (fun w' hw' => (xlb6 ag26 (hw'.bk (ni_new hb3z (Nat.lt_of_lt_of_le (bk_lt hb1) (Nat.le_refl _)) ni_nil) hb3) rfl rfl rfl rfl rfl rfl rfl)) ?_
  refine LP rfl rfl rfl (xfa fa57_2 rfl) ?_
  refine LS rfl rfl rfl (fun w' hw' => (xld sc3 rfl (cl_bk (hw'.bk (ni_new hb3z (Nat.lt_of_lt_of_le (bk_lt hb1) (Nat.le_refl _)) ni_nil) hb3) rfl))) ?_
  refine L_two ?_ ?_
  ·
   refine LF rfl rfl rfl has17 rfl (c_submit (S := ([b1] ++ S)) (⟨_, _, _, _, _, (Le.bk (hl1.trans (Le.drew w1)) hb1), (RdX.more (Le.rdx (hl1.trans (Le.drew w1)) hz1) hz1.rd rfl (inc (Nat.le_refl _) hb3z inn)), (RdX.more (Le.rdx (hl1.trans (Le.drew w1)) hz2) hz2.rd rfl (inc (Nat.le_refl _) hb3z inn)), (RdX.more (Le.rdx (hl1.trans (Le.drew w1)) hz3) hz3.rd rfl (inc (Nat.le_refl _) hb3z inn)), (RdX.more (Le.rdx (hl1.trans (Le.drew w1)) hz4) hz4.rd rfl (inc (Nat.le_refl _) hb3z inn)), (RdX.more (Le.rdx (hl1.trans (Le.drew w1)) hz5) hz5.rd rfl (inc (Nat.le_refl _) hb3z inn))⟩ : Cl ([b1] ++ S) w1.drew 116 bc c) hok (List.mem_append_right _ hmc) (lt_app (lt_cons (Nat.lt_of_lt_of_le (bk_lt hb3) (Le.drew w1).size) lt_nil) (lt_le hS (Nat.le_trans hl1.size (Le.drew w1).size))) (t := ⟨o.t.se, o.t.rq, o.t.code, o.t.args, o.t.reads, o.t.writes⟩) (rep := o.rep) (RdE.le (hl1.trans (Le.drew w1)) htc.rd) (RdE.le (hl1.trans (Le.drew w1)) hta.rd) (RdE.le (hl1.trans (Le.drew w1)) htr.rd) (RdE.le (hl1.trans (Le.drew w1)) htw.rd) ho.t ho.b) ?_
   rintro _ w2 (⟨qne1, rfl, qle1⟩ | ⟨qeq1, qxc1, qxa1, qxr1, qxw1, rfl, qlx1, qcl1, qoc1, qoa1, qor1, qow1, qof1⟩)
   ·
    refine ⟨(Lx.trans (Lx.trans (Lx.refl _ _) (Le.drew w1).lx) qle1.lx), ?_⟩
    refine LP rfl rfl rfl (xmv rfl) ?_
    refine LP rfl rfl rfl (xext rfl rfl) ?_
    refine LP rfl rfl rfl (xext rfl rfl) ?_
    refine LT rfl rfl rfl (xal zr36) ?_
    rintro _ w3 ⟨b2, rfl, hl2, hb4, hb4z⟩
    refine ⟨(Lx.trans (Lx.trans (Lx.trans (Lx.refl _ _) (Le.drew w1).lx) qle1.lx) hl2.lx), ?_⟩
    refine LUt rfl rfl (xsb sz36 hb4 rfl rfl (agg_cells _) rfl rfl (al_cons rfl (al_cons rfl (al_cons rfl (al_cons rfl (al_cons rfl (al_cons rfl (al_cons rfl (al_cons rfl (al_cons rfl (al_cons rfl al_nil))))))))))) ?_
    rintro w4 ⟨hq1, hb5⟩
    dsimp only [put] at hb5
    refine LP rfl rfl rfl (xas rfl) ?_
    refine LZ ?_
    refine F_seq ?_
    refine W_seq ?_
    refine W_draw (.pure 0 (.pure 1 (.pure 2 (.still 3 (.pure 4 (.still 5 (.pure 6 (.still 7 (.two 8 12 (.pure 9 (.pure 10 (.pure 11 (.one 12 (.tail 13 (.pure 14 .nil)))))) (.one 8 (.pure 9 (.pure 10 (.pure 11 (.tail 13 (.pure 14 .nil))))))))))))))) (Lx [bw] w4) hfol (by kernel_rfl) (pkt (pkb (pkt pkB))) (Le.drew _).lx ?_
    refine LP rfl rfl rfl (xmv rfl) ?_
    refine LP rfl rfl rfl (xnc rfl) ?_
    refine LP rfl rfl rfl (xfa fa48_1 rfl) ?_
    have le1 : Le w w4 := (hq1.le (hl1.trans ((Le.drew w1).trans (qle1.trans hl2))) (inc (Nat.le_trans hl1.size (Nat.le_trans (Le.drew w1).size qle1.size)) hb4z inn))
    refine LS rfl rfl rfl (fun w' hw' => (xld sc31 rfl (cl_bk (hw'.bk (ni_ne n2 ni_nil) (Le.bk le1 hpP)) rfl))) ?_
    refine LP rfl rfl rfl (xfa fa57_1 rfl) ?_
    have le2 : Le w1 w4 := (hq1.le ((Le.drew w1).trans (qle1.trans hl2)) (inc (Nat.le_trans (Le.drew w1).size qle1.size) hb4z inn))
    refine LS rfl rfl rfl (fun w' hw' => (xlb6 ag26 (hw'.bk (ni_new hb3z (Nat.lt_of_lt_of_le (bk_lt hb2) (Nat.le_refl _)) ni_nil) (Le.bk le2 hb3)) rfl rfl rfl rfl rfl rfl rfl)) ?_
    refine LP rfl rfl rfl (xfa fa57_2 rfl) ?_
    refine LS rfl rfl rfl (fun w' hw' => (xld sc3 rfl (cl_bk (hw'.bk (ni_new hb3z (Nat.lt_of_lt_of_le (bk_lt hb2) (Nat.le_refl _)) ni_nil) (Le.bk le2 hb3)) rfl))) ?_
    refine L_two ?_ ?_
    ·
     refine LF rfl rfl rfl has18 rfl (r_submit (S := ([b1, b2] ++ S)) (⟨_, _, _, _, _, (Le.bk (le1.trans (Le.drew w4)) hb2), (RdX.more (Le.rdx (le1.trans (Le.drew w4)) hz6) hz6.rd rfl (inc (Nat.le_refl _) hb3z (inc (Nat.le_trans hl1.size (Nat.le_trans (Le.drew w1).size qle1.size)) hb4z inn))), (RdX.more (Le.rdx (le1.trans (Le.drew w4)) hz7) hz7.rd rfl (inc (Nat.le_refl _) hb3z (inc (Nat.le_trans hl1.size (Nat.le_trans (Le.drew w1).size qle1.size)) hb4z inn))), (RdX.more (Le.rdx (le1.trans (Le.drew w4)) hz8) hz8.rd rfl (inc (Nat.le_refl _) hb3z (inc (Nat.le_trans hl1.size (Nat.le_trans (Le.drew w1).size qle1.size)) hb4z inn))), (RdX.more (Le.rdx (le1.trans (Le.drew w4)) hz9) hz9.rd rfl (inc (Nat.le_refl _) hb3z (inc (Nat.le_trans hl1.size (Nat.le_trans (Le.drew w1).size qle1.size)) hb4z inn))), (RdX.more (Le.rdx (le1.trans (Le.drew w4)) hz10) hz10.rd rfl (inc (Nat.le_refl _) hb3z (inc (Nat.le_trans hl1.size (Nat.le_trans (Le.drew w1).size qle1.size)) hb4z inn)))⟩ : Cl ([b1, b2] ++ S) w4.drew 118 bw c) hok (List.mem_append_right _ hmw) (lt_app (lt_cons (Nat.lt_of_lt_of_le (bk_lt hb3) (Nat.le_trans (Le.drew w1).size (Nat.le_trans qle1.size (Nat.le_trans hl2.size (Nat.le_trans hq1.size (Le.drew w4).size))))) (lt_cons (Nat.lt_of_lt_of_le (bk_lt hb4) (Nat.le_trans hq1.size (Le.drew w4).size)) lt_nil)) (lt_le hS (Nat.le_trans hl1.size (Nat.le_trans (Le.drew w1).size (Nat.le_trans qle1.size (Nat.le_trans hl2.size (Nat.le_trans hq1.size (Le.drew w4).size))))))) (t := ⟨o.t.se, o.t.rq, o.t.code, o.t.args, o.t.reads, o.t.writes⟩) (rep := o.rep) (RdX.more (Le.rdx (le1.trans (Le.drew w4)) htc) htc.rd rfl (inc (Nat.le_refl _) hb3z (inc (Nat.le_trans hl1.size (Nat.le_trans (Le.drew w1).size qle1.size)) hb4z inn))) (RdX.more (Le.rdx (le1.trans (Le.drew w4)) hta) hta.rd rfl (inc (Nat.le_refl _) hb3z (inc (Nat.le_trans hl1.size (Nat.le_trans (Le.drew w1).size qle1.size)) hb4z inn))) (RdX.more (Le.rdx (le1.trans (Le.drew w4)) htr) htr.rd rfl (inc (Nat.le_refl _) hb3z (inc (Nat.le_trans hl1.size (Nat.le_trans (Le.drew w1).size qle1.size)) hb4z inn))) (RdX.more (Le.rdx (le1.trans (Le.drew w4)) htw) htw.rd rfl (inc (Nat.le_refl _) hb3z (inc (Nat.le_trans hl1.size (Nat.le_trans (Le.drew w1).size qle1.size)) hb4z inn))) ho.t ho.b) ?_
     rintro _ w5 (⟨qne2, rfl, qle2⟩ | ⟨qeq2, qxr2, qxw2, rfl, qlx2, qcl2, qor2, qow2⟩)
     ·
      refine ⟨(Lx.trans (Lx.trans (Lx.refl _ _) (Le.drew w4).lx) qle2.lx), ?_⟩
      refine LP rfl rfl rfl (xmv rfl) ?_
      refine LP rfl rfl rfl (xext rfl rfl) ?_
      refine LP rfl rfl rfl (xext rfl rfl) ?_
      refine LT rfl rfl rfl (xal zr36) ?_
      rintro _ w6 ⟨b3, rfl, hl3, hb6, hb6z⟩
      refine ⟨(Lx.trans (Lx.trans (Lx.trans (Lx.refl _ _) (Le.drew w4).lx) qle2.lx) hl3.lx), ?_⟩
      refine LUt rfl rfl (xsb sz36 hb6 rfl rfl (agg_cells _) rfl rfl (al_cons rfl (al_cons rfl (al_cons rfl (al_cons rfl (al_cons rfl (al_cons rfl (al_cons rfl (al_cons rfl (al_cons rfl (al_cons rfl al_nil))))))))))) ?_
      rintro w7 ⟨hq2, hb7⟩
      dsimp only [put] at hb7
      refine LP rfl rfl rfl (xas rfl) ?_
      refine LZ ?_
      refine F_seq ?_
      refine W_seq ?_
      refine W_reg (.pure 0 (.pure 1 (.pure 2 (.pure 3 (.one 4 (.one 5 (.one 6 (.pure 7 (.pure 8 .nil))))))))) rfl ?_
      refine LP rfl rfl rfl (xmv rfl) ?_
      refine LP rfl rfl rfl (xmv rfl) ?_
      refine LP rfl rfl rfl (xeql rfl rfl) ?_
      refine L_is 52 (v := .bool true) rfl (by simp) ?_
      refine LP rfl rfl rfl (xmv rfl) ?_
      have le3 : Le w4 w7 := (hq2.le ((Le.drew w4).trans (qle2.trans hl3)) (inc (Nat.le_trans (Le.drew w4).size qle2.size) hb6z inn))
      refine LX rfl rfl rfl (xlb10 ag36 (Le.bk le3 hb5) rfl rfl rfl rfl rfl rfl rfl rfl rfl rfl rfl) trivial ?_
      refine LX rfl rfl rfl (xlb10 ag36 hb7 rfl rfl rfl rfl rfl rfl rfl rfl rfl rfl rfl) trivial ?_
      refine LF rfl rfl rfl has69 rfl (askSame (rep := 0) (least := 0) (q := false) (l := []) (t := ⟨0, 0, [], [], [], []⟩) (RdE.nil _ _) (RdE.nil _ _) (RdE.nil _ _) (RdE.nil _ _) (RdE.nil _ _) (RdE.nil _ _) (RdE.nil _ _) (RdE.nil _ _) (RdE.nil _ _) (RdE.nil _ _)) ?_
      rintro _ w8 ⟨rfl, hl4⟩
      refine ⟨trivial, ?_⟩
      refine LP rfl rfl rfl (xpk1 rfl rfl) ?_
      refine LP rfl rfl rfl (xas rfl) ?_
      refine LZ ?_
      refine F_seq ?_
      refine W_ret ?_
      refine F_ret_block ?_
      refine F_ret_then ?_
      have lx1 : Lx [bc, bw] w w4 := (hq1.drop (Lx.trans (Lx.trans (Lx.trans (Lx.trans (Lx.refl _ _) hl1.lx) (Le.drew w1).lx) qle1.lx) hl2.lx) (dr_new (Nat.le_trans hl1.size (Nat.le_trans (Le.drew w1).size qle1.size)) hb4z dr_nil))
      have lx2 : Lx [bc, bw] w w7 := (hq2.drop (Lx.trans (Lx.trans (Lx.trans lx1 (Le.drew w4).lx) qle2.lx) hl3.lx) (dr_new (Nat.le_trans hl1.size (Nat.le_trans (Le.drew w1).size (Nat.le_trans qle1.size (Nat.le_trans hl2.size (Nat.le_trans hq1.size (Nat.le_trans (Le.drew w4).size qle2.size)))))) hb6z dr_nil))
      have le4 : Le w w7 := (hq2.le (le1.trans ((Le.drew w4).trans (qle2.trans hl3))) (inc (Nat.le_trans hl1.size (Nat.le_trans (Le.drew w1).size (Nat.le_trans qle1.size (Nat.le_trans hl2.size (Nat.le_trans hq1.size (Nat.le_trans (Le.drew w4).size qle2.size)))))) hb6z inn))
      exact F_end1 rfl rfl ⟨_, rfl, S, _, _, rfl, (Lx.trans lx2 hl4.lx).mono (ms_cons hmc (ms_cons hmw ms_nil)), ⟨(Le.bk (le4.trans hl4) hpP), (⟨_, _, _, _, _, (Le.bk (le4.trans hl4) hb1), (Le.rdx (le4.trans hl4) hz1), (Le.rdx (le4.trans hl4) hz2), (Le.rdx (le4.trans hl4) hz3), (Le.rdx (le4.trans hl4) hz4), (Le.rdx (le4.trans hl4) hz5)⟩ : Cl S w8 116 bc c), (⟨_, _, _, _, _, (Le.bk (le4.trans hl4) hb2), (Le.rdx (le4.trans hl4) hz6), (Le.rdx (le4.trans hl4) hz7), (Le.rdx (le4.trans hl4) hz8), (Le.rdx (le4.trans hl4) hz9), (Le.rdx (le4.trans hl4) hz10)⟩ : Cl S w8 118 bw c), hmp, hmc, hmw, hok, hlz, (lt_le hS (Nat.le_trans hl1.size (Nat.le_trans (Le.drew w1).size (Nat.le_trans qle1.size (Nat.le_trans hl2.size (Nat.le_trans hq1.size (Nat.le_trans (Le.drew w4).size (Nat.le_trans qle2.size (Nat.le_trans hl3.size (Nat.le_trans hq2.size hl4.size))))))))))⟩, fun i hi => .inl hi⟩
     ·
      exact absurd qeq2 qne1
    ·
     refine LT rfl rfl rfl (xal zr36) ?_
     rintro _ w9 ⟨b4, rfl, hl5, hb8, hb8z⟩
     refine ⟨(Lx.trans (Lx.trans (Lx.refl _ _) (Le.drew w4).lx) hl5.lx), ?_⟩
     refine LF rfl rfl rfl has18 rfl (r_submit (S := ([b1, b2, b4] ++ S)) (⟨_, _, _, _, _, (Le.bk (le1.trans ((Le.drew w4).trans hl5)) hb2), (RdX.more (Le.rdx (le1.trans ((Le.drew w4).trans hl5)) hz6) hz6.rd rfl (inc (Nat.le_refl _) hb3z (inc (Nat.le_trans hl1.size (Nat.le_trans (Le.drew w1).size qle1.size)) hb4z (inc (Nat.le_trans hl1.size (Nat.le_trans (Le.drew w1).size (Nat.le_trans qle1.size (Nat.le_trans hl2.size (Nat.le_trans hq1.size (Le.drew w4).size))))) hb8z inn)))), (RdX.more (Le.rdx (le1.trans ((Le.drew w4).trans hl5)) hz7) hz7.rd rfl (inc (Nat.le_refl _) hb3z (inc (Nat.le_trans hl1.size (Nat.le_trans (Le.drew w1).size qle1.size)) hb4z (inc (Nat.le_trans hl1.size (Nat.le_trans (Le.drew w1).size (Nat.le_trans qle1.size (Nat.le_trans hl2.size (Nat.le_trans hq1.size (Le.drew w4).size))))) hb8z inn)))), (RdX.more (Le.rdx (le1.trans ((Le.drew w4).trans hl5)) hz8) hz8.rd rfl (inc (Nat.le_refl _) hb3z (inc (Nat.le_trans hl1.size (Nat.le_trans (Le.drew w1).size qle1.size)) hb4z (inc (Nat.le_trans hl1.size (Nat.le_trans (Le.drew w1).size (Nat.le_trans qle1.size (Nat.le_trans hl2.size (Nat.le_trans hq1.size (Le.drew w4).size))))) hb8z inn)))), (RdX.more (Le.rdx (le1.trans ((Le.drew w4).trans hl5)) hz9) hz9.rd rfl (inc (Nat.le_refl _) hb3z (inc (Nat.le_trans hl1.size (Nat.le_trans (Le.drew w1).size qle1.size)) hb4z (inc (Nat.le_trans hl1.size (Nat.le_trans (Le.drew w1).size (Nat.le_trans qle1.size (Nat.le_trans hl2.size (Nat.le_trans hq1.size (Le.drew w4).size))))) hb8z inn)))), (RdX.more (Le.rdx (le1.trans ((Le.drew w4).trans hl5)) hz10) hz10.rd rfl (inc (Nat.le_refl _) hb3z (inc (Nat.le_trans hl1.size (Nat.le_trans (Le.drew w1).size qle1.size)) hb4z (inc (Nat.le_trans hl1.size (Nat.le_trans (Le.drew w1).size (Nat.le_trans qle1.size (Nat.le_trans hl2.size (Nat.le_trans hq1.size (Le.drew w4).size))))) hb8z inn))))⟩ : Cl ([b1, b2, b4] ++ S) w9 118 bw c) hok (List.mem_append_right _ hmw) (lt_app (lt_cons (Nat.lt_of_lt_of_le (bk_lt hb3) (Nat.le_trans (Le.drew w1).size (Nat.le_trans qle1.size (Nat.le_trans hl2.size (Nat.le_trans hq1.size (Nat.le_trans (Le.drew w4).size hl5.size)))))) (lt_cons (Nat.lt_of_lt_of_le (bk_lt hb4) (Nat.le_trans hq1.size (Nat.le_trans (Le.drew w4).size hl5.size))) (lt_cons (Nat.lt_of_lt_of_le (bk_lt hb8) (Nat.le_refl _)) lt_nil))) (lt_le hS (Nat.le_trans hl1.size (Nat.le_trans (Le.drew w1).size (Nat.le_trans qle1.size (Nat.le_trans hl2.size (Nat.le_trans hq1.size (Nat.le_trans (Le.drew w4).size hl5.size)))))))) (t := ⟨o.t.se, o.t.rq, o.t.code, o.t.args, o.t.reads, o.t.writes⟩) (rep := o.rep) (RdX.more (Le.rdx (le1.trans ((Le.drew w4).trans hl5)) htc) htc.rd rfl (inc (Nat.le_refl _) hb3z (inc (Nat.le_trans hl1.size (Nat.le_trans (Le.drew w1).size qle1.size)) hb4z (inc (Nat.le_trans hl1.size (Nat.le_trans (Le.drew w1).size (Nat.le_trans qle1.size (Nat.le_trans hl2.size (Nat.le_trans hq1.size (Le.drew w4).size))))) hb8z inn)))) (RdX.more (Le.rdx (le1.trans ((Le.drew w4).trans hl5)) hta) hta.rd rfl (inc (Nat.le_refl _) hb3z (inc (Nat.le_trans hl1.size (Nat.le_trans (Le.drew w1).size qle1.size)) hb4z (inc (Nat.le_trans hl1.size (Nat.le_trans (Le.drew w1).size (Nat.le_trans qle1.size (Nat.le_trans hl2.size (Nat.le_trans hq1.size (Le.drew w4).size))))) hb8z inn)))) (RdX.more (Le.rdx (le1.trans ((Le.drew w4).trans hl5)) htr) htr.rd rfl (inc (Nat.le_refl _) hb3z (inc (Nat.le_trans hl1.size (Nat.le_trans (Le.drew w1).size qle1.size)) hb4z (inc (Nat.le_trans hl1.size (Nat.le_trans (Le.drew w1).size (Nat.le_trans qle1.size (Nat.le_trans hl2.size (Nat.le_trans hq1.size (Le.drew w4).size))))) hb8z inn)))) (RdX.more (Le.rdx (le1.trans ((Le.drew w4).trans hl5)) htw) htw.rd rfl (inc (Nat.le_refl _) hb3z (inc (Nat.le_trans hl1.size (Nat.le_trans (Le.drew w1).size qle1.size)) hb4z (inc (Nat.le_trans hl1.size (Nat.le_trans (Le.drew w1).size (Nat.le_trans qle1.size (Nat.le_trans hl2.size (Nat.le_trans hq1.size (Le.drew w4).size))))) hb8z inn)))) ho.t ho.b) ?_
     rintro _ w10 (⟨qne3, rfl, qle3⟩ | ⟨qeq3, qxr3, qxw3, rfl, qlx3, qcl3, qor3, qow3⟩)
     ·
      refine ⟨(Lx.trans (Lx.trans (Lx.trans (Lx.refl _ _) (Le.drew w4).lx) hl5.lx) qle3.lx), ?_⟩
      refine LP rfl rfl rfl (xmv rfl) ?_
      refine LP rfl rfl rfl (xext rfl rfl) ?_
      refine LP rfl rfl rfl (xext rfl rfl) ?_
      refine LUt rfl rfl (xsb sz36 (Le.bk qle3 hb8) rfl rfl (agg_cells _) rfl rfl (al_cons rfl (al_cons rfl (al_cons rfl (al_cons rfl (al_cons rfl (al_cons rfl (al_cons rfl (al_cons rfl (al_cons rfl (al_cons rfl al_nil))))))))))) ?_
      rintro w11 ⟨hq3, hb9⟩
      dsimp only [put] at hb9
      refine LP rfl rfl rfl (xas rfl) ?_
      refine LZ ?_
      refine F_seq ?_
      refine W_seq ?_
      refine W_reg (.pure 0 (.pure 1 (.pure 2 (.pure 3 (.one 4 (.one 5 (.one 6 (.pure 7 (.pure 8 .nil))))))))) rfl ?_
      refine LP rfl rfl rfl (xmv rfl) ?_
      refine LP rfl rfl rfl (xmv rfl) ?_
      refine LP rfl rfl rfl (xeql rfl rfl) ?_
      refine L_is 52 (v := .bool true) rfl (by simp) ?_
      refine LP rfl rfl rfl (xmv rfl) ?_
      have le5 : Le w4 w11 := (hq3.le ((Le.drew w4).trans (hl5.trans qle3)) (inc (Le.drew w4).size hb8z inn))
      refine LX rfl rfl rfl (xlb10 ag36 (Le.bk le5 hb5) rfl rfl rfl rfl rfl rfl rfl rfl rfl rfl rfl) trivial ?_
      refine LX rfl rfl rfl (xlb10 ag36 hb9 rfl rfl rfl rfl rfl rfl rfl rfl rfl rfl rfl) trivial ?_
      refine LF rfl rfl rfl has69 rfl (askSame (rep := 0) (least := 0) (q := false) (l := []) (t := ⟨0, 0, [], [], [], []⟩) (RdE.nil _ _) (RdE.nil _ _) (RdE.nil _ _) (RdE.nil _ _) (RdE.nil _ _) (RdE.nil _ _) (RdE.nil _ _) (RdE.nil _ _) (RdE.nil _ _) (RdE.nil _ _)) ?_
      rintro _ w12 ⟨rfl, hl6⟩
      refine ⟨trivial, ?_⟩
      refine LP rfl rfl rfl (xpk1 rfl rfl) ?_
      refine LP rfl rfl rfl (xas rfl) ?_
      refine LZ ?_
      refine F_seq ?_
      refine W_ret ?_
      refine F_ret_block ?_
      refine F_ret_then ?_
      have lx3 : Lx [bc, bw] w w4 := (hq1.drop (Lx.trans (Lx.trans (Lx.trans (Lx.trans (Lx.refl _ _) hl1.lx) (Le.drew w1).lx) qle1.lx) hl2.lx) (dr_new (Nat.le_trans hl1.size (Nat.le_trans (Le.drew w1).size qle1.size)) hb4z dr_nil))
      have lx4 : Lx [bc, bw] w w11 := (hq3.drop (Lx.trans (Lx.trans (Lx.trans lx3 (Le.drew w4).lx) hl5.lx) qle3.lx) (dr_new (Nat.le_trans hl1.size (Nat.le_trans (Le.drew w1).size (Nat.le_trans qle1.size (Nat.le_trans hl2.size (Nat.le_trans hq1.size (Le.drew w4).size))))) hb8z dr_nil))
      have le6 : Le w w11 := (hq3.le (le1.trans ((Le.drew w4).trans (hl5.trans qle3))) (inc (Nat.le_trans hl1.size (Nat.le_trans (Le.drew w1).size (Nat.le_trans qle1.size (Nat.le_trans hl2.size (Nat.le_trans hq1.size (Le.drew w4).size))))) hb8z inn))
      exact F_end1 rfl rfl ⟨_, rfl, S, _, _, rfl, (Lx.trans lx4 hl6.lx).mono (ms_cons hmc (ms_cons hmw ms_nil)), ⟨(Le.bk (le6.trans hl6) hpP), (⟨_, _, _, _, _, (Le.bk (le6.trans hl6) hb1), (Le.rdx (le6.trans hl6) hz1), (Le.rdx (le6.trans hl6) hz2), (Le.rdx (le6.trans hl6) hz3), (Le.rdx (le6.trans hl6) hz4), (Le.rdx (le6.trans hl6) hz5)⟩ : Cl S w12 116 bc c), (⟨_, _, _, _, _, (Le.bk (le6.trans hl6) hb2), (Le.rdx (le6.trans hl6) hz6), (Le.rdx (le6.trans hl6) hz7), (Le.rdx (le6.trans hl6) hz8), (Le.rdx (le6.trans hl6) hz9), (Le.rdx (le6.trans hl6) hz10)⟩ : Cl S w12 118 bw c), hmp, hmc, hmw, hok, hlz, (lt_le hS (Nat.le_trans hl1.size (Nat.le_trans (Le.drew w1).size (Nat.le_trans qle1.size (Nat.le_trans hl2.size (Nat.le_trans hq1.size (Nat.le_trans (Le.drew w4).size (Nat.le_trans hl5.size (Nat.le_trans qle3.size (Nat.le_trans hq3.size hl6.size))))))))))⟩, fun i hi => .inl hi⟩
     ·
      exact absurd qeq3 qne1
   ·
    have hk1 := qlx1.bk (ni_ne n1 ni_nil) (Le.bk (hl1.trans (Le.drew w1)) hpP)
    have hk2 := Lx.rdx2 qlx1 hz1.rd rfl (dr_in hmc dr_nil) (Le.rdx (hl1.trans (Le.drew w1)) hz1)
    have hk3 := Lx.rdx2 qlx1 hz2.rd rfl (dr_in hmc dr_nil) (Le.rdx (hl1.trans (Le.drew w1)) hz2)
    have hk4 := Lx.rdx2 qlx1 hz3.rd rfl (dr_in hmc dr_nil) (Le.rdx (hl1.trans (Le.drew w1)) hz3)
    have hk5 := Lx.rdx2 qlx1 hz4.rd rfl (dr_in hmc dr_nil) (Le.rdx (hl1.trans (Le.drew w1)) hz4)
    have hk6 := Lx.rdx2 qlx1 hz5.rd rfl (dr_in hmc dr_nil) (Le.rdx (hl1.trans (Le.drew w1)) hz5)
    have hk7 := qlx1.bk (ni_ne (Ne.symm n3) ni_nil) (Le.bk (hl1.trans (Le.drew w1)) hb2)
    have hk8 := Lx.rdx2 qlx1 hz6.rd rfl (dr_in hmc dr_nil) (Le.rdx (hl1.trans (Le.drew w1)) hz6)
    have hk9 := Lx.rdx2 qlx1 hz7.rd rfl (dr_in hmc dr_nil) (Le.rdx (hl1.trans (Le.drew w1)) hz7)
    have hk10 := Lx.rdx2 qlx1 hz8.rd rfl (dr_in hmc dr_nil) (Le.rdx (hl1.trans (Le.drew w1)) hz8)
    have hk11 := Lx.rdx2 qlx1 hz9.rd rfl (dr_in hmc dr_nil) (Le.rdx (hl1.trans (Le.drew w1)) hz9)
    have hk12 := Lx.rdx2 qlx1 hz10.rd rfl (dr_in hmc dr_nil) (Le.rdx (hl1.trans (Le.drew w1)) hz10)
    have hk13 := Lx.rdx2 qlx1 htc.rd rfl (dr_in hmc dr_nil) (Le.rdx (hl1.trans (Le.drew w1)) htc)
    have hk14 := Lx.rdx2 qlx1 hta.rd rfl (dr_in hmc dr_nil) (Le.rdx (hl1.trans (Le.drew w1)) hta)
    have hk15 := Lx.rdx2 qlx1 htr.rd rfl (dr_in hmc dr_nil) (Le.rdx (hl1.trans (Le.drew w1)) htr)
    have hk16 := Lx.rdx2 qlx1 htw.rd rfl (dr_in hmc dr_nil) (Le.rdx (hl1.trans (Le.drew w1)) htw)
    have hk17 := Lx.rdx2 qlx1 hx.rd rfl (dr_in hmc dr_nil) (Le.rdx (hl1.trans (Le.drew w1)) hx)
    have hk18 := Lx.rdx2 qlx1 hk.rd rfl (dr_in hmc dr_nil) (Le.rdx (hl1.trans (Le.drew w1)) hk)
    have hk19 := Lx.rdx2 qlx1 hp.rd rfl (dr_in hmc dr_nil) (Le.rdx (hl1.trans (Le.drew w1)) hp)
    have hk20 := qlx1.bk (ni_new hb3z (Nat.lt_of_lt_of_le (bk_lt hb1) (Nat.le_refl _)) ni_nil) (Le.bk (Le.drew w1) hb3)
    obtain ⟨z11, z12, z13, z14, z15, hb10, hz11, hz12, hz13, hz14, hz15⟩ := qcl1.less fun i hi => List.mem_append_right _ hi
    have lx5 : Lx [bc] w1 w2 := (qlx1.drop (Lx.trans (Lx.refl _ _) (Le.drew w1).lx) (dr_in (by simp) dr_nil))
    refine ⟨lx5, ?_⟩
    refine LP rfl rfl rfl (xmv rfl) ?_
    refine LP rfl rfl rfl (xext rfl rfl) ?_
    refine LP rfl rfl rfl (xext rfl rfl) ?_
    refine LT rfl rfl rfl (xal zr36) ?_
    rintro _ w13 ⟨b5, rfl, hl7, hb11, hb11z⟩
    have lx6 : Lx [bc] w1 w2 := (qlx1.drop (Lx.trans (Lx.refl _ _) (Le.drew w1).lx) (dr_in (by simp) dr_nil))
    refine ⟨(Lx.trans lx6 hl7.lx), ?_⟩
    refine LUt rfl rfl (xsb sz36 hb11 rfl rfl (agg_cells _) rfl rfl (al_cons rfl (al_cons rfl (al_cons rfl (al_cons qoc1.rd.sh.one (al_cons qoa1.rd.sh.one (al_cons qor1.rd.sh.one (al_cons qow1.rd.sh.one (al_cons rfl (al_cons rfl (al_cons rfl al_nil))))))))))) ?_
    rintro w14 ⟨hq4, hb12⟩
    dsimp only [put] at hb12
    refine LP rfl rfl rfl (xas rfl) ?_
    refine LZ ?_
    refine F_seq ?_
    refine W_seq ?_
    refine W_draw (.pure 0 (.pure 1 (.pure 2 (.still 3 (.pure 4 (.still 5 (.pure 6 (.still 7 (.two 8 12 (.pure 9 (.pure 10 (.pure 11 (.one 12 (.tail 13 (.pure 14 .nil)))))) (.one 8 (.pure 9 (.pure 10 (.pure 11 (.tail 13 (.pure 14 .nil))))))))))))))) (Lx [bw] w14) hfol (by kernel_rfl) (pkt (pkb (pkt pkB))) (Le.drew _).lx ?_
    refine LP rfl rfl rfl (xmv rfl) ?_
    refine LP rfl rfl rfl (xnc rfl) ?_
    refine LP rfl rfl rfl (xfa fa48_1 rfl) ?_
    have le7 : Le w2 w14 := (hq4.le hl7 (inc (Nat.le_refl _) hb11z inn))
    refine LS rfl rfl rfl (fun w' hw' => (xld sc31 rfl (cl_bk (hw'.bk (ni_ne n2 ni_nil) (Le.bk le7 hk1)) rfl))) ?_
    refine LP rfl rfl rfl (xfa fa57_1 rfl) ?_
    refine LS rfl rfl rfl (fun w' hw' => (xlb6 ag26 (hw'.bk (ni_new hb3z (Nat.lt_of_lt_of_le (bk_lt hb2) (Nat.le_refl _)) ni_nil) (Le.bk le7 hk20)) rfl rfl rfl rfl rfl rfl rfl)) ?_
    refine LP rfl rfl rfl (xfa fa57_2 rfl) ?_
    refine LS rfl rfl rfl (fun w' hw' => (xld sc3 rfl (cl_bk (hw'.bk (ni_new hb3z (Nat.lt_of_lt_of_le (bk_lt hb2) (Nat.le_refl _)) ni_nil) (Le.bk le7 hk20)) rfl))) ?_
    refine L_two ?_ ?_
    ·
     refine LF rfl rfl rfl has18 rfl (r_submit (S := ([b1, b5] ++ S)) (⟨_, _, _, _, _, (Le.bk (le7.trans (Le.drew w14)) hk7), (RdX.more (Le.rdx (le7.trans (Le.drew w14)) hk8) hz6.rd rfl (inc (Nat.le_refl _) hb3z (inc (Nat.le_trans hl1.size (Nat.le_trans (Le.drew w1).size qlx1.size)) hb11z inn))), (RdX.more (Le.rdx (le7.trans (Le.drew w14)) hk9) hz7.rd rfl (inc (Nat.le_refl _) hb3z (inc (Nat.le_trans hl1.size (Nat.le_trans (Le.drew w1).size qlx1.size)) hb11z inn))), (RdX.more (Le.rdx (le7.trans (Le.drew w14)) hk10) hz8.rd rfl (inc (Nat.le_refl _) hb3z (inc (Nat.le_trans hl1.size (Nat.le_trans (Le.drew w1).size qlx1.size)) hb11z inn))), (RdX.more (Le.rdx (le7.trans (Le.drew w14)) hk11) hz9.rd rfl (inc (Nat.le_refl _) hb3z (inc (Nat.le_trans hl1.size (Nat.le_trans (Le.drew w1).size qlx1.size)) hb11z inn))), (RdX.more (Le.rdx (le7.trans (Le.drew w14)) hk12) hz10.rd rfl (inc (Nat.le_refl _) hb3z (inc (Nat.le_trans hl1.size (Nat.le_trans (Le.drew w1).size qlx1.size)) hb11z inn)))⟩ : Cl ([b1, b5] ++ S) w14.drew 118 bw c) hok (List.mem_append_right _ hmw) (lt_app (lt_cons (Nat.lt_of_lt_of_le (bk_lt hb3) (Nat.le_trans (Le.drew w1).size (Nat.le_trans qlx1.size (Nat.le_trans hl7.size (Nat.le_trans hq4.size (Le.drew w14).size))))) (lt_cons (Nat.lt_of_lt_of_le (bk_lt hb11) (Nat.le_trans hq4.size (Le.drew w14).size)) lt_nil)) (lt_le hS (Nat.le_trans hl1.size (Nat.le_trans (Le.drew w1).size (Nat.le_trans qlx1.size (Nat.le_trans hl7.size (Nat.le_trans hq4.size (Le.drew w14).size))))))) (t := ⟨o.t.se, o.t.rq, o.t.code, o.t.args, o.t.reads, o.t.writes⟩) (rep := o.rep) (RdX.more (Le.rdx (le7.trans (Le.drew w14)) hk13) htc.rd rfl (inc (Nat.le_refl _) hb3z (inc (Nat.le_trans hl1.size (Nat.le_trans (Le.drew w1).size qlx1.size)) hb11z inn))) (RdX.more (Le.rdx (le7.trans (Le.drew w14)) hk14) hta.rd rfl (inc (Nat.le_refl _) hb3z (inc (Nat.le_trans hl1.size (Nat.le_trans (Le.drew w1).size qlx1.size)) hb11z inn))) (RdX.more (Le.rdx (le7.trans (Le.drew w14)) hk15) htr.rd rfl (inc (Nat.le_refl _) hb3z (inc (Nat.le_trans hl1.size (Nat.le_trans (Le.drew w1).size qlx1.size)) hb11z inn))) (RdX.more (Le.rdx (le7.trans (Le.drew w14)) hk16) htw.rd rfl (inc (Nat.le_refl _) hb3z (inc (Nat.le_trans hl1.size (Nat.le_trans (Le.drew w1).size qlx1.size)) hb11z inn))) ho.t ho.b) ?_
     rintro _ w15 (⟨qne4, rfl, qle4⟩ | ⟨qeq4, qxr4, qxw4, rfl, qlx4, qcl4, qor4, qow4⟩)
     ·
      exact absurd qeq1 qne4
     ·
      have hk21 := qlx4.bk (ni_ne n2 ni_nil) (Le.bk (le7.trans (Le.drew w14)) hk1)
      have hk22 := qlx4.bk (ni_ne n3 ni_nil) (Le.bk (le7.trans (Le.drew w14)) hb10)
      have hk23 := Lx.rdx2 qlx4 hz11.rd rfl (dr_in (List.mem_append_right _ hmw) dr_nil) (Le.rdx (le7.trans (Le.drew w14)) hz11)
      have hk24 := Lx.rdx2 qlx4 hz12.rd rfl (dr_in (List.mem_append_right _ hmw) dr_nil) (Le.rdx (le7.trans (Le.drew w14)) hz12)
      have hk25 := Lx.rdx2 qlx4 hz13.rd rfl (dr_in (List.mem_append_right _ hmw) dr_nil) (Le.rdx (le7.trans (Le.drew w14)) hz13)
      have hk26 := Lx.rdx2 qlx4 hz14.rd rfl (dr_in (List.mem_append_right _ hmw) dr_nil) (Le.rdx (le7.trans (Le.drew w14)) hz14)
      have hk27 := Lx.rdx2 qlx4 hz15.rd rfl (dr_in (List.mem_append_right _ hmw) dr_nil) (Le.rdx (le7.trans (Le.drew w14)) hz15)
      have hk28 := Lx.rdx2 qlx4 hz6.rd rfl (dr_in hmw dr_nil) (Le.rdx (le7.trans (Le.drew w14)) hk8)
      have hk29 := Lx.rdx2 qlx4 hz7.rd rfl (dr_in hmw dr_nil) (Le.rdx (le7.trans (Le.drew w14)) hk9)
      have hk30 := Lx.rdx2 qlx4 hz8.rd rfl (dr_in hmw dr_nil) (Le.rdx (le7.trans (Le.drew w14)) hk10)
      have hk31 := Lx.rdx2 qlx4 hz9.rd rfl (dr_in hmw dr_nil) (Le.rdx (le7.trans (Le.drew w14)) hk11)
      have hk32 := Lx.rdx2 qlx4 hz10.rd rfl (dr_in hmw dr_nil) (Le.rdx (le7.trans (Le.drew w14)) hk12)
      have hk33 := Lx.rdx2 qlx4 htc.rd rfl (dr_in hmw dr_nil) (Le.rdx (le7.trans (Le.drew w14)) hk13)
      have hk34 := Lx.rdx2 qlx4 hta.rd rfl (dr_in hmw dr_nil) (Le.rdx (le7.trans (Le.drew w14)) hk14)
      have hk35 := Lx.rdx2 qlx4 htr.rd rfl (dr_in hmw dr_nil) (Le.rdx (le7.trans (Le.drew w14)) hk15)
      have hk36 := Lx.rdx2 qlx4 htw.rd rfl (dr_in hmw dr_nil) (Le.rdx (le7.trans (Le.drew w14)) hk16)
      have hk37 := Lx.rdx2 qlx4 hx.rd rfl (dr_in hmw dr_nil) (Le.rdx (le7.trans (Le.drew w14)) hk17)
      have hk38 := Lx.rdx2 qlx4 hk.rd rfl (dr_in hmw dr_nil) (Le.rdx (le7.trans (Le.drew w14)) hk18)
      have hk39 := Lx.rdx2 qlx4 hp.rd rfl (dr_in hmw dr_nil) (Le.rdx (le7.trans (Le.drew w14)) hk19)
      have hk40 := qlx4.bk (ni_new hb3z (Nat.lt_of_lt_of_le (bk_lt hb2) (Nat.le_refl _)) ni_nil) (Le.bk (le7.trans (Le.drew w14)) hk20)
      have hk41 := qlx4.ow (Off.cons (Ow.ne_new qoc1 (Nat.lt_of_lt_of_le (bk_lt hb2) (Nat.le_trans hl1.size (Le.drew w1).size))) Off.nil) (qoc1.le (le7.trans (Le.drew w14)))
      have hk42 := qlx4.ow (Off.cons (Ow.ne_new qoa1 (Nat.lt_of_lt_of_le (bk_lt hb2) (Nat.le_trans hl1.size (Le.drew w1).size))) Off.nil) (qoa1.le (le7.trans (Le.drew w14)))
      have hk43 := qlx4.ow (Off.cons (Ow.ne_new qor1 (Nat.lt_of_lt_of_le (bk_lt hb2) (Nat.le_trans hl1.size (Le.drew w1).size))) Off.nil) (qor1.le (le7.trans (Le.drew w14)))
      have hk44 := qlx4.ow (Off.cons (Ow.ne_new qow1 (Nat.lt_of_lt_of_le (bk_lt hb2) (Nat.le_trans hl1.size (Le.drew w1).size))) Off.nil) (qow1.le (le7.trans (Le.drew w14)))
      have hk45 := qlx4.bk (ni_new hb11z (Nat.lt_of_lt_of_le (bk_lt hb2) (Nat.le_trans hl1.size (Nat.le_trans (Le.drew w1).size qlx1.size))) ni_nil) (Le.bk (Le.drew w14) hb12)
      obtain ⟨z16, z17, z18, z19, z20, hb13, hz16, hz17, hz18, hz19, hz20⟩ := qcl4
      have lx7 : Lx [bw] w14 w15 := (qlx4.drop (Lx.trans (Lx.refl _ _) (Le.drew w14).lx) (dr_in (by simp) dr_nil))
      refine ⟨lx7, ?_⟩
      refine LP rfl rfl rfl (xmv rfl) ?_
      refine LP rfl rfl rfl (xext rfl rfl) ?_
      refine LP rfl rfl rfl (xext rfl rfl) ?_
      refine LT rfl rfl rfl (xal zr36) ?_
      rintro _ w16 ⟨b6, rfl, hl8, hb14, hb14z⟩
      have lx8 : Lx [bw] w14 w15 := (qlx4.drop (Lx.trans (Lx.refl _ _) (Le.drew w14).lx) (dr_in (by simp) dr_nil))
      refine ⟨(Lx.trans lx8 hl8.lx), ?_⟩
      refine LUt rfl rfl (xsb sz36 hb14 rfl rfl (agg_cells _) rfl rfl (al_cons rfl (al_cons rfl (al_cons rfl (al_cons hk33.rd.sh.one (al_cons hk34.rd.sh.one (al_cons qor4.rd.sh.one (al_cons qow4.rd.sh.one (al_cons rfl (al_cons rfl (al_cons rfl al_nil))))))))))) ?_
      rintro w17 ⟨hq5, hb15⟩
      dsimp only [put] at hb15
      refine LP rfl rfl rfl (xas rfl) ?_
      refine LZ ?_
      refine F_seq ?_
      refine W_seq ?_
      refine W_reg (.pure 0 (.pure 1 (.pure 2 (.pure 3 (.one 4 (.one 5 (.one 6 (.pure 7 (.pure 8 .nil))))))))) rfl ?_
      refine LP rfl rfl rfl (xmv rfl) ?_
      refine LP rfl rfl rfl (xmv rfl) ?_
      refine LP rfl rfl rfl (xeql rfl rfl) ?_
      refine L_is 52 (v := .bool true) rfl (by simp) ?_
      refine LP rfl rfl rfl (xmv rfl) ?_
      have le8 : Le w15 w17 := (hq5.le hl8 (inc (Nat.le_refl _) hb14z inn))
      refine LX rfl rfl rfl (xlb10 ag36 (Le.bk le8 hk45) rfl rfl rfl rfl rfl rfl rfl rfl rfl rfl rfl) trivial ?_
      refine LX rfl rfl rfl (xlb10 ag36 hb15 rfl rfl rfl rfl rfl rfl rfl rfl rfl rfl rfl) trivial ?_
      refine LF rfl rfl rfl has69 rfl (askSame (rep := o.rep) (least := 0) (q := false) (l := []) (t := ⟨(normT c ⟨o.t.se, o.t.rq, o.t.code, o.t.args, o.t.reads, o.t.writes⟩).se, (normT c ⟨o.t.se, o.t.rq, o.t.code, o.t.args, o.t.reads, o.t.writes⟩).rq, (normT c ⟨o.t.se, o.t.rq, o.t.code, o.t.args, o.t.reads, o.t.writes⟩).code, (normT c ⟨o.t.se, o.t.rq, o.t.code, o.t.args, o.t.reads, o.t.writes⟩).args, (normT c ⟨o.t.se, o.t.rq, o.t.code, o.t.args, o.t.reads, o.t.writes⟩).reads, (normT c ⟨o.t.se, o.t.rq, o.t.code, o.t.args, o.t.reads, o.t.writes⟩).writes⟩) (RdE.le le8 hk41.rd) (RdE.le le8 hk42.rd) (RdE.le le8 hk43.rd) (RdE.le le8 hk44.rd) (RdE.le le8 hk33.rd) (RdE.le le8 hk34.rd) (RdE.le le8 qor4.rd) (RdE.le le8 qow4.rd) (RdE.nil _ _) (RdE.nil _ _)) ?_
      rintro _ w18 ⟨rfl, hl9⟩
      refine ⟨trivial, ?_⟩
      refine LP rfl rfl rfl (xpk1 rfl rfl) ?_
      refine LP rfl rfl rfl (xas rfl) ?_
      refine LZ ?_
      refine F_seq ?_
      refine W_ret ?_
      refine F_ret_block ?_
      refine F_ret_then ?_
      have lx9 : Lx [bc, bw] w w2 := (qlx1.drop (Lx.trans (Lx.trans (Lx.refl _ _) hl1.lx) (Le.drew w1).lx) (dr_in (by simp) dr_nil))
      have lx10 : Lx [bc, bw] w w14 := (hq4.drop (Lx.trans lx9 hl7.lx) (dr_new (Nat.le_trans hl1.size (Nat.le_trans (Le.drew w1).size qlx1.size)) hb11z dr_nil))
      have lx11 : Lx [bc, bw] w w15 := (qlx4.drop (Lx.trans lx10 (Le.drew w14).lx) (dr_in (by simp) dr_nil))
      have lx12 : Lx [bc, bw] w w17 := (hq5.drop (Lx.trans lx11 hl8.lx) (dr_new (Nat.le_trans hl1.size (Nat.le_trans (Le.drew w1).size (Nat.le_trans qlx1.size (Nat.le_trans hl7.size (Nat.le_trans hq4.size (Nat.le_trans (Le.drew w14).size qlx4.size)))))) hb14z dr_nil))
      exact F_end1 rfl rfl ⟨_, rfl, S, _, _, rfl, (Lx.trans lx12 hl9.lx).mono (ms_cons hmc (ms_cons hmw ms_nil)), ⟨(Le.bk (le8.trans hl9) hk21), (⟨_, _, _, _, _, (Le.bk (le8.trans hl9) hk22), ((Le.rdx (le8.trans hl9) hk23).less fun i hi => List.mem_append_right _ hi), ((Le.rdx (le8.trans hl9) hk24).less fun i hi => List.mem_append_right _ hi), ((Le.rdx (le8.trans hl9) hk25).less fun i hi => List.mem_append_right _ hi), ((Le.rdx (le8.trans hl9) hk26).less fun i hi => List.mem_append_right _ hi), ((Le.rdx (le8.trans hl9) hk27).less fun i hi => List.mem_append_right _ hi)⟩ : Cl S w18 116 bc (submitC c ⟨o.t.se, o.t.rq, o.t.code, o.t.args, o.t.reads, o.t.writes⟩ o.rep)), (⟨_, _, _, _, _, (Le.bk (le8.trans hl9) hb13), ((Le.rdx (le8.trans hl9) hz16).less fun i hi => List.mem_append_right _ hi), ((Le.rdx (le8.trans hl9) hz17).less fun i hi => List.mem_append_right _ hi), ((Le.rdx (le8.trans hl9) hz18).less fun i hi => List.mem_append_right _ hi), ((Le.rdx (le8.trans hl9) hz19).less fun i hi => List.mem_append_right _ hi), ((Le.rdx (le8.trans hl9) hz20).less fun i hi => List.mem_append_right _ hi)⟩ : Cl S w18 118 bw (submitC c ⟨o.t.se, o.t.rq, o.t.code, o.t.args, o.t.reads, o.t.writes⟩ o.rep)), hmp, hmc, hmw, (submitC_ok hok ho.t qeq1), hlz, (lt_le hS (Nat.le_trans hl1.size (Nat.le_trans (Le.drew w1).size (Nat.le_trans qlx1.size (Nat.le_trans hl7.size (Nat.le_trans hq4.size (Nat.le_trans (Le.drew w14).size (Nat.le_trans qlx4.size (Nat.le_trans hl8.size (Nat.le_trans hq5.size hl9.size))))))))))⟩, fun i hi => .inl hi⟩
    ·
     refine LT rfl rfl rfl (xal zr36) ?_
     rintro _ w19 ⟨b7, rfl, hl10, hb16, hb16z⟩
     refine ⟨(Lx.trans (Lx.trans (Lx.refl _ _) (Le.drew w14).lx) hl10.lx), ?_⟩
     refine LF rfl rfl rfl has18 rfl (r_submit (S := ([b1, b5, b7] ++ S)) (⟨_, _, _, _, _, (Le.bk (le7.trans ((Le.drew w14).trans hl10)) hk7), (RdX.more (Le.rdx (le7.trans ((Le.drew w14).trans hl10)) hk8) hz6.rd rfl (inc (Nat.le_refl _) hb3z (inc (Nat.le_trans hl1.size (Nat.le_trans (Le.drew w1).size qlx1.size)) hb11z (inc (Nat.le_trans hl1.size (Nat.le_trans (Le.drew w1).size (Nat.le_trans qlx1.size (Nat.le_trans hl7.size (Nat.le_trans hq4.size (Le.drew w14).size))))) hb16z inn)))), (RdX.more (Le.rdx (le7.trans ((Le.drew w14).trans hl10)) hk9) hz7.rd rfl (inc (Nat.le_refl _) hb3z (inc (Nat.le_trans hl1.size (Nat.le_trans (Le.drew w1).size qlx1.size)) hb11z (inc (Nat.le_trans hl1.size (Nat.le_trans (Le.drew w1).size (Nat.le_trans qlx1.size (Nat.le_trans hl7.size (Nat.le_trans hq4.size (Le.drew w14).size))))) hb16z inn)))), (RdX.more (Le.rdx (le7.trans ((Le.drew w14).trans hl10)) hk10) hz8.rd rfl (inc (Nat.le_refl _) hb3z (inc (Nat.le_trans hl1.size (Nat.le_trans (Le.drew w1).size qlx1.size)) hb11z (inc (Nat.le_trans hl1.size (Nat.le_trans (Le.drew w1).size (Nat.le_trans qlx1.size (Nat.le_trans hl7.size (Nat.le_trans hq4.size (Le.drew w14).size))))) hb16z inn)))), (RdX.more (Le.rdx (le7.trans ((Le.drew w14).trans hl10)) hk11) hz9.rd rfl (inc (Nat.le_refl _) hb3z (inc (Nat.le_trans hl1.size (Nat.le_trans (Le.drew w1).size qlx1.size)) hb11z (inc (Nat.le_trans hl1.size (Nat.le_trans (Le.drew w1).size (Nat.le_trans qlx1.size (Nat.le_trans hl7.size (Nat.le_trans hq4.size (Le.drew w14).size))))) hb16z inn)))), (RdX.more (Le.rdx (le7.trans ((Le.drew w14).trans hl10)) hk12) hz10.rd rfl (inc (Nat.le_refl _) hb3z (inc (Nat.le_trans hl1.size (Nat.le_trans (Le.drew w1).size qlx1.size)) hb11z (inc (Nat.le_trans hl1.size (Nat.le_trans (Le.drew w1).size (Nat.le_trans qlx1.size (Nat.le_trans hl7.size (Nat.le_trans hq4.size (Le.drew w14).size))))) hb16z inn))))⟩ : Cl ([b1, b5, b7] ++ S) w19 118 bw c) hok (List.mem_append_right _ hmw) (lt_app (lt_cons (Nat.lt_of_lt_of_le (bk_lt hb3) (Nat.le_trans (Le.drew w1).size (Nat.le_trans qlx1.size (Nat.le_trans hl7.size (Nat.le_trans hq4.size (Nat.le_trans (Le.drew w14).size hl10.size)))))) (lt_cons (Nat.lt_of_lt_of_le (bk_lt hb11) (Nat.le_trans hq4.size (Nat.le_trans (Le.drew w14).size hl10.size))) (lt_cons (Nat.lt_of_lt_of_le (bk_lt hb16) (Nat.le_refl _)) lt_nil))) (lt_le hS (Nat.le_trans hl1.size (Nat.le_trans (Le.drew w1).size (Nat.le_trans qlx1.size (Nat.le_trans hl7.size (Nat.le_trans hq4.size (Nat.le_trans (Le.drew w14).size hl10.size)))))))) (t := ⟨o.t.se, o.t.rq, o.t.code, o.t.args, o.t.reads, o.t.writes⟩) (rep := o.rep) (RdX.more (Le.rdx (le7.trans ((Le.drew w14).trans hl10)) hk13) htc.rd rfl (inc (Nat.le_refl _) hb3z (inc (Nat.le_trans hl1.size (Nat.le_trans (Le.drew w1).size qlx1.size)) hb11z (inc (Nat.le_trans hl1.size (Nat.le_trans (Le.drew w1).size (Nat.le_trans qlx1.size (Nat.le_trans hl7.size (Nat.le_trans hq4.size (Le.drew w14).size))))) hb16z inn)))) (RdX.more (Le.rdx (le7.trans ((Le.drew w14).trans hl10)) hk14) hta.rd rfl (inc (Nat.le_refl _) hb3z (inc (Nat.le_trans hl1.size (Nat.le_trans (Le.drew w1).size qlx1.size)) hb11z (inc (Nat.le_trans hl1.size (Nat.le_trans (Le.drew w1).size (Nat.le_trans qlx1.size (Nat.le_trans hl7.size (Nat.le_trans hq4.size (Le.drew w14).size))))) hb16z inn)))) (RdX.more (Le.rdx (le7.trans ((Le.drew w14).trans hl10)) hk15) htr.rd rfl (inc (Nat.le_refl _) hb3z (inc (Nat.le_trans hl1.size (Nat.le_trans (Le.drew w1).size qlx1.size)) hb11z (inc (Nat.le_trans hl1.size (Nat.le_trans (Le.drew w1).size (Nat.le_trans qlx1.size (Nat.le_trans hl7.size (Nat.le_trans hq4.size (Le.drew w14).size))))) hb16z inn)))) (RdX.more (Le.rdx (le7.trans ((Le.drew w14).trans hl10)) hk16) htw.rd rfl (inc (Nat.le_refl _) hb3z (inc (Nat.le_trans hl1.size (Nat.le_trans (Le.drew w1).size qlx1.size)) hb11z (inc (Nat.le_trans hl1.size (Nat.le_trans (Le.drew w1).size (Nat.le_trans qlx1.size (Nat.le_trans hl7.size (Nat.le_trans hq4.size (Le.drew w14).size))))) hb16z inn)))) ho.t ho.b) ?_
     rintro _ w20 (⟨qne5, rfl, qle5⟩ | ⟨qeq5, qxr5, qxw5, rfl, qlx5, qcl5, qor5, qow5⟩)
     ·
      exact absurd qeq1 qne5
     ·
      have hk46 := qlx5.bk (ni_ne n2 ni_nil) (Le.bk (le7.trans ((Le.drew w14).trans hl10)) hk1)
      have hk47 := qlx5.bk (ni_ne n3 ni_nil) (Le.bk (le7.trans ((Le.drew w14).trans hl10)) hb10)
      have hk48 := Lx.rdx2 qlx5 hz11.rd rfl (dr_in (List.mem_append_right _ hmw) dr_nil) (Le.rdx (le7.trans ((Le.drew w14).trans hl10)) hz11)
      have hk49 := Lx.rdx2 qlx5 hz12.rd rfl (dr_in (List.mem_append_right _ hmw) dr_nil) (Le.rdx (le7.trans ((Le.drew w14).trans hl10)) hz12)
      have hk50 := Lx.rdx2 qlx5 hz13.rd rfl (dr_in (List.mem_append_right _ hmw) dr_nil) (Le.rdx (le7.trans ((Le.drew w14).trans hl10)) hz13)
      have hk51 := Lx.rdx2 qlx5 hz14.rd rfl (dr_in (List.mem_append_right _ hmw) dr_nil) (Le.rdx (le7.trans ((Le.drew w14).trans hl10)) hz14)
      have hk52 := Lx.rdx2 qlx5 hz15.rd rfl (dr_in (List.mem_append_right _ hmw) dr_nil) (Le.rdx (le7.trans ((Le.drew w14).trans hl10)) hz15)
      have hk53 := Lx.rdx2 qlx5 hz6.rd rfl (dr_in hmw dr_nil) (Le.rdx (le7.trans ((Le.drew w14).trans hl10)) hk8)
      have hk54 := Lx.rdx2 qlx5 hz7.rd rfl (dr_in hmw dr_nil) (Le.rdx (le7.trans ((Le.drew w14).trans hl10)) hk9)
      have hk55 := Lx.rdx2 qlx5 hz8.rd rfl (dr_in hmw dr_nil) (Le.rdx (le7.trans ((Le.drew w14).trans hl10)) hk10)
      have hk56 := Lx.rdx2 qlx5 hz9.rd rfl (dr_in hmw dr_nil) (Le.rdx (le7.trans ((Le.drew w14).trans hl10)) hk11)
      have hk57 := Lx.rdx2 qlx5 hz10.rd rfl (dr_in hmw dr_nil) (Le.rdx (le7.trans ((Le.drew w14).trans hl10)) hk12)
      have hk58 := Lx.rdx2 qlx5 htc.rd rfl (dr_in hmw dr_nil) (Le.rdx (le7.trans ((Le.drew w14).trans hl10)) hk13)
      have hk59 := Lx.rdx2 qlx5 hta.rd rfl (dr_in hmw dr_nil) (Le.rdx (le7.trans ((Le.drew w14).trans hl10)) hk14)
      have hk60 := Lx.rdx2 qlx5 htr.rd rfl (dr_in hmw dr_nil) (Le.rdx (le7.trans ((Le.drew w14).trans hl10)) hk15)
      have hk61 := Lx.rdx2 qlx5 htw.rd rfl (dr_in hmw dr_nil) (Le.rdx (le7.trans ((Le.drew w14).trans hl10)) hk16)
      have hk62 := Lx.rdx2 qlx5 hx.rd rfl (dr_in hmw dr_nil) (Le.rdx (le7.trans ((Le.drew w14).trans hl10)) hk17)
      have hk63 := Lx.rdx2 qlx5 hk.rd rfl (dr_in hmw dr_nil) (Le.rdx (le7.trans ((Le.drew w14).trans hl10)) hk18)
      have hk64 := Lx.rdx2 qlx5 hp.rd rfl (dr_in hmw dr_nil) (Le.rdx (le7.trans ((Le.drew w14).trans hl10)) hk19)
      have hk65 := qlx5.bk (ni_new hb3z (Nat.lt_of_lt_of_le (bk_lt hb2) (Nat.le_refl _)) ni_nil) (Le.bk (le7.trans ((Le.drew w14).trans hl10)) hk20)
      have hk66 := qlx5.ow (Off.cons (Ow.ne_new qoc1 (Nat.lt_of_lt_of_le (bk_lt hb2) (Nat.le_trans hl1.size (Le.drew w1).size))) Off.nil) (qoc1.le (le7.trans ((Le.drew w14).trans hl10)))
      have hk67 := qlx5.ow (Off.cons (Ow.ne_new qoa1 (Nat.lt_of_lt_of_le (bk_lt hb2) (Nat.le_trans hl1.size (Le.drew w1).size))) Off.nil) (qoa1.le (le7.trans ((Le.drew w14).trans hl10)))
      have hk68 := qlx5.ow (Off.cons (Ow.ne_new qor1 (Nat.lt_of_lt_of_le (bk_lt hb2) (Nat.le_trans hl1.size (Le.drew w1).size))) Off.nil) (qor1.le (le7.trans ((Le.drew w14).trans hl10)))
      have hk69 := qlx5.ow (Off.cons (Ow.ne_new qow1 (Nat.lt_of_lt_of_le (bk_lt hb2) (Nat.le_trans hl1.size (Le.drew w1).size))) Off.nil) (qow1.le (le7.trans ((Le.drew w14).trans hl10)))
      have hk70 := qlx5.bk (ni_new hb11z (Nat.lt_of_lt_of_le (bk_lt hb2) (Nat.le_trans hl1.size (Nat.le_trans (Le.drew w1).size qlx1.size))) ni_nil) (Le.bk ((Le.drew w14).trans hl10) hb12)
      have hk71 := qlx5.bk (ni_new hb16z (Nat.lt_of_lt_of_le (bk_lt hb2) (Nat.le_trans hl1.size (Nat.le_trans (Le.drew w1).size (Nat.le_trans qlx1.size (Nat.le_trans hl7.size (Nat.le_trans hq4.size (Le.drew w14).size)))))) ni_nil) hb16
      obtain ⟨z21, z22, z23, z24, z25, hb17, hz21, hz22, hz23, hz24, hz25⟩ := qcl5
      have lx13 : Lx [bw] w14 w20 := (qlx5.drop (Lx.trans (Lx.trans (Lx.refl _ _) (Le.drew w14).lx) hl10.lx) (dr_in (by simp) dr_nil))
      refine ⟨lx13, ?_⟩
      refine LP rfl rfl rfl (xmv rfl) ?_
      refine LP rfl rfl rfl (xext rfl rfl) ?_
      refine LP rfl rfl rfl (xext rfl rfl) ?_
      refine LUt rfl rfl (xsb sz36 hk71 rfl rfl (agg_cells _) rfl rfl (al_cons rfl (al_cons rfl (al_cons rfl (al_cons hk58.rd.sh.one (al_cons hk59.rd.sh.one (al_cons qor5.rd.sh.one (al_cons qow5.rd.sh.one (al_cons rfl (al_cons rfl (al_cons rfl al_nil))))))))))) ?_
      rintro w21 ⟨hq6, hb18⟩
      dsimp only [put] at hb18
      have hk72 := hq6.bk (ni_old (Nat.lt_of_lt_of_le (bk_lt hpP) (Nat.le_trans hl1.size (Nat.le_trans (Le.drew w1).size (Nat.le_trans qlx1.size (Nat.le_trans hl7.size (Nat.le_trans hq4.size (Le.drew w14).size)))))) hb16z ni_nil) hk46
      have hk73 := hq6.bk (ni_old (Nat.lt_of_lt_of_le (bk_lt hb1) (Nat.le_trans hl1.size (Nat.le_trans (Le.drew w1).size (Nat.le_trans qlx1.size (Nat.le_trans hl7.size (Nat.le_trans hq4.size (Le.drew w14).size)))))) hb16z ni_nil) hk47
      have hk74 := Lx.rdx2 hq6 hz11.rd rfl (dr_new (Nat.le_trans hl7.size (Nat.le_trans hq4.size (Le.drew w14).size)) hb16z dr_nil) hk48
      have hk75 := Lx.rdx2 hq6 hz12.rd rfl (dr_new (Nat.le_trans hl7.size (Nat.le_trans hq4.size (Le.drew w14).size)) hb16z dr_nil) hk49
      have hk76 := Lx.rdx2 hq6 hz13.rd rfl (dr_new (Nat.le_trans hl7.size (Nat.le_trans hq4.size (Le.drew w14).size)) hb16z dr_nil) hk50
      have hk77 := Lx.rdx2 hq6 hz14.rd rfl (dr_new (Nat.le_trans hl7.size (Nat.le_trans hq4.size (Le.drew w14).size)) hb16z dr_nil) hk51
      have hk78 := Lx.rdx2 hq6 hz15.rd rfl (dr_new (Nat.le_trans hl7.size (Nat.le_trans hq4.size (Le.drew w14).size)) hb16z dr_nil) hk52
      have hk79 := hq6.bk (ni_old (Nat.lt_of_lt_of_le (bk_lt hb2) (Nat.le_trans hl1.size (Nat.le_trans (Le.drew w1).size (Nat.le_trans qlx1.size (Nat.le_trans hl7.size (Nat.le_trans hq4.size (Le.drew w14).size)))))) hb16z ni_nil) hb17
      have hk80 := Lx.rdx2 hq6 hz21.rd rfl (dr_in (by simp) dr_nil) hz21
      have hk81 := Lx.rdx2 hq6 hz22.rd rfl (dr_in (by simp) dr_nil) hz22
      have hk82 := Lx.rdx2 hq6 hz23.rd rfl (dr_in (by simp) dr_nil) hz23
      have hk83 := Lx.rdx2 hq6 hz24.rd rfl (dr_in (by simp) dr_nil) hz24
      have hk84 := Lx.rdx2 hq6 hz25.rd rfl (dr_in (by simp) dr_nil) hz25
      have hk85 := Lx.rdx2 hq6 htc.rd rfl (dr_new (Nat.le_trans hl1.size (Nat.le_trans (Le.drew w1).size (Nat.le_trans qlx1.size (Nat.le_trans hl7.size (Nat.le_trans hq4.size (Le.drew w14).size))))) hb16z dr_nil) hk58
      have hk86 := Lx.rdx2 hq6 hta.rd rfl (dr_new (Nat.le_trans hl1.size (Nat.le_trans (Le.drew w1).size (Nat.le_trans qlx1.size (Nat.le_trans hl7.size (Nat.le_trans hq4.size (Le.drew w14).size))))) hb16z dr_nil) hk59
      have hk87 := Lx.rdx2 hq6 htr.rd rfl (dr_new (Nat.le_trans hl1.size (Nat.le_trans (Le.drew w1).size (Nat.le_trans qlx1.size (Nat.le_trans hl7.size (Nat.le_trans hq4.size (Le.drew w14).size))))) hb16z dr_nil) hk60
      have hk88 := Lx.rdx2 hq6 htw.rd rfl (dr_new (Nat.le_trans hl1.size (Nat.le_trans (Le.drew w1).size (Nat.le_trans qlx1.size (Nat.le_trans hl7.size (Nat.le_trans hq4.size (Le.drew w14).size))))) hb16z dr_nil) hk61
      have hk89 := Lx.rdx2 hq6 hx.rd rfl (dr_new (Nat.le_trans hl1.size (Nat.le_trans (Le.drew w1).size (Nat.le_trans qlx1.size (Nat.le_trans hl7.size (Nat.le_trans hq4.size (Le.drew w14).size))))) hb16z dr_nil) hk62
      have hk90 := Lx.rdx2 hq6 hk.rd rfl (dr_new (Nat.le_trans hl1.size (Nat.le_trans (Le.drew w1).size (Nat.le_trans qlx1.size (Nat.le_trans hl7.size (Nat.le_trans hq4.size (Le.drew w14).size))))) hb16z dr_nil) hk63
      have hk91 := Lx.rdx2 hq6 hp.rd rfl (dr_new (Nat.le_trans hl1.size (Nat.le_trans (Le.drew w1).size (Nat.le_trans qlx1.size (Nat.le_trans hl7.size (Nat.le_trans hq4.size (Le.drew w14).size))))) hb16z dr_nil) hk64
      have hk92 := hq6.bk (ni_old (Nat.lt_of_lt_of_le (bk_lt hb3) (Nat.le_trans (Le.drew w1).size (Nat.le_trans qlx1.size (Nat.le_trans hl7.size (Nat.le_trans hq4.size (Le.drew w14).size))))) hb16z ni_nil) hk65
      have hk93 := hq6.ow (Off.cons (Ow.ne_old qoc1 hb16z (Nat.le_trans hl7.size (Nat.le_trans hq4.size (Le.drew w14).size))) Off.nil) hk66
      have hk94 := hq6.ow (Off.cons (Ow.ne_old qoa1 hb16z (Nat.le_trans hl7.size (Nat.le_trans hq4.size (Le.drew w14).size))) Off.nil) hk67
      have hk95 := hq6.ow (Off.cons (Ow.ne_old qor1 hb16z (Nat.le_trans hl7.size (Nat.le_trans hq4.size (Le.drew w14).size))) Off.nil) hk68
      have hk96 := hq6.ow (Off.cons (Ow.ne_old qow1 hb16z (Nat.le_trans hl7.size (Nat.le_trans hq4.size (Le.drew w14).size))) Off.nil) hk69
      have hk97 := hq6.bk (ni_old (Nat.lt_of_lt_of_le (bk_lt hb11) (Nat.le_trans hq4.size (Le.drew w14).size)) hb16z ni_nil) hk70
      have hk98 := Lx.rdx2 hq6 htc.rd rfl (dr_new (Nat.le_trans hl1.size (Nat.le_trans (Le.drew w1).size (Nat.le_trans qlx1.size (Nat.le_trans hl7.size (Nat.le_trans hq4.size (Le.drew w14).size))))) hb16z dr_nil) hk58
      have hk99 := Lx.rdx2 hq6 hta.rd rfl (dr_new (Nat.le_trans hl1.size (Nat.le_trans (Le.drew w1).size (Nat.le_trans qlx1.size (Nat.le_trans hl7.size (Nat.le_trans hq4.size (Le.drew w14).size))))) hb16z dr_nil) hk59
      have hk100 := Lx.rdx2 hq6 qor5.rd rfl (dr_in (by simp) dr_nil) qor5
      have hk101 := Lx.rdx2 hq6 qow5.rd rfl (dr_in (by simp) dr_nil) qow5
      refine LP rfl rfl rfl (xas rfl) ?_
      refine LZ ?_
      refine F_seq ?_
      refine W_seq ?_
      refine W_reg (.pure 0 (.pure 1 (.pure 2 (.pure 3 (.one 4 (.one 5 (.one 6 (.pure 7 (.pure 8 .nil))))))))) rfl ?_
      refine LP rfl rfl rfl (xmv rfl) ?_
      refine LP rfl rfl rfl (xmv rfl) ?_
      refine LP rfl rfl rfl (xeql rfl rfl) ?_
      refine L_is 52 (v := .bool true) rfl (by simp) ?_
      refine LP rfl rfl rfl (xmv rfl) ?_
      refine LX rfl rfl rfl (xlb10 ag36 hk97 rfl rfl rfl rfl rfl rfl rfl rfl rfl rfl rfl) trivial ?_
      refine LX rfl rfl rfl (xlb10 ag36 hb18 rfl rfl rfl rfl rfl rfl rfl rfl rfl rfl rfl) trivial ?_
      refine LF rfl rfl rfl has69 rfl (askSame (rep := o.rep) (least := 0) (q := false) (l := []) (t := ⟨(normT c ⟨o.t.se, o.t.rq, o.t.code, o.t.args, o.t.reads, o.t.writes⟩).se, (normT c ⟨o.t.se, o.t.rq, o.t.code, o.t.args, o.t.reads, o.t.writes⟩).rq, (normT c ⟨o.t.se, o.t.rq, o.t.code, o.t.args, o.t.reads, o.t.writes⟩).code, (normT c ⟨o.t.se, o.t.rq, o.t.code, o.t.args, o.t.reads, o.t.writes⟩).args, (normT c ⟨o.t.se, o.t.rq, o.t.code, o.t.args, o.t.reads, o.t.writes⟩).reads, (normT c ⟨o.t.se, o.t.rq, o.t.code, o.t.args, o.t.reads, o.t.writes⟩).writes⟩) hk93.rd hk94.rd hk95.rd hk96.rd hk98.rd hk99.rd hk100.rd hk101.rd (RdE.nil _ _) (RdE.nil _ _)) ?_
      rintro _ w22 ⟨rfl, hl11⟩
      refine ⟨trivial, ?_⟩
      refine LP rfl rfl rfl (xpk1 rfl rfl) ?_
      refine LP rfl rfl rfl (xas rfl) ?_
      refine LZ ?_
      refine F_seq ?_
      refine W_ret ?_
      refine F_ret_block ?_
      refine F_ret_then ?_
      have lx14 : Lx [bc, bw] w w2 := (qlx1.drop (Lx.trans (Lx.trans (Lx.refl _ _) hl1.lx) (Le.drew w1).lx) (dr_in (by simp) dr_nil))
      have lx15 : Lx [bc, bw] w w14 := (hq4.drop (Lx.trans lx14 hl7.lx) (dr_new (Nat.le_trans hl1.size (Nat.le_trans (Le.drew w1).size qlx1.size)) hb11z dr_nil))
      have lx16 : Lx [bc, bw] w w20 := (qlx5.drop (Lx.trans (Lx.trans lx15 (Le.drew w14).lx) hl10.lx) (dr_in (by simp) dr_nil))
      have lx17 : Lx [bc, bw] w w21 := (hq6.drop lx16 (dr_new (Nat.le_trans hl1.size (Nat.le_trans (Le.drew w1).size (Nat.le_trans qlx1.size (Nat.le_trans hl7.size (Nat.le_trans hq4.size (Le.drew w14).size))))) hb16z dr_nil))
      exact F_end1 rfl rfl ⟨_, rfl, S, _, _, rfl, (Lx.trans lx17 hl11.lx).mono (ms_cons hmc (ms_cons hmw ms_nil)), ⟨(Le.bk hl11 hk72), (⟨_, _, _, _, _, (Le.bk hl11 hk73), ((Le.rdx hl11 hk74).less fun i hi => List.mem_append_right _ hi), ((Le.rdx hl11 hk75).less fun i hi => List.mem_append_right _ hi), ((Le.rdx hl11 hk76).less fun i hi => List.mem_append_right _ hi), ((Le.rdx hl11 hk77).less fun i hi => List.mem_append_right _ hi), ((Le.rdx hl11 hk78).less fun i hi => List.mem_append_right _ hi)⟩ : Cl S w22 116 bc (submitC c ⟨o.t.se, o.t.rq, o.t.code, o.t.args, o.t.reads, o.t.writes⟩ o.rep)), (⟨_, _, _, _, _, (Le.bk hl11 hk79), ((Le.rdx hl11 hk80).less fun i hi => List.mem_append_right _ hi), ((Le.rdx hl11 hk81).less fun i hi => List.mem_append_right _ hi), ((Le.rdx hl11 hk82).less fun i hi => List.mem_append_right _ hi), ((Le.rdx hl11 hk83).less fun i hi => List.mem_append_right _ hi), ((Le.rdx hl11 hk84).less fun i hi => List.mem_append_right _ hi)⟩ : Cl S w22 118 bw (submitC c ⟨o.t.se, o.t.rq, o.t.code, o.t.args, o.t.reads, o.t.writes⟩ o.rep)), hmp, hmc, hmw, (submitC_ok hok ho.t qeq1), hlz, (lt_le hS (Nat.le_trans hl1.size (Nat.le_trans (Le.drew w1).size (Nat.le_trans qlx1.size (Nat.le_trans hl7.size (Nat.le_trans hq4.size (Nat.le_trans (Le.drew w14).size (Nat.le_trans hl10.size (Nat.le_trans qlx5.size (Nat.le_trans hq6.size hl11.size))))))))))⟩, fun i hi => .inl hi⟩
  ·
   refine LT rfl rfl rfl (xal zr36) ?_
   rintro _ w23 ⟨b8, rfl, hl12, hb19, hb19z⟩
   refine ⟨(Lx.trans (Lx.trans (Lx.refl _ _) (Le.drew w1).lx) hl12.lx), ?_⟩
   refine LF rfl rfl rfl has17 rfl (c_submit (S := ([b1, b8] ++ S)) (⟨_, _, _, _, _, (Le.bk (hl1.trans ((Le.drew w1).trans hl12)) hb1), (RdX.more (Le.rdx (hl1.trans ((Le.drew w1).trans hl12)) hz1) hz1.rd rfl (inc (Nat.le_refl _) hb3z (inc (Nat.le_trans hl1.size (Le.drew w1).size) hb19z inn))), (RdX.more (Le.rdx (hl1.trans ((Le.drew w1).trans hl12)) hz2) hz2.rd rfl (inc (Nat.le_refl _) hb3z (inc (Nat.le_trans hl1.size (Le.drew w1).size) hb19z inn))), (RdX.more (Le.rdx (hl1.trans ((Le.drew w1).trans hl12)) hz3) hz3.rd rfl (inc (Nat.le_refl _) hb3z (inc (Nat.le_trans hl1.size (Le.drew w1).size) hb19z inn))), (RdX.more (Le.rdx (hl1.trans ((Le.drew w1).trans hl12)) hz4) hz4.rd rfl (inc (Nat.le_refl _) hb3z (inc (Nat.le_trans hl1.size (Le.drew w1).size) hb19z inn))), (RdX.more (Le.rdx (hl1.trans ((Le.drew w1).trans hl12)) hz5) hz5.rd rfl (inc (Nat.le_refl _) hb3z (inc (Nat.le_trans hl1.size (Le.drew w1).size) hb19z inn)))⟩ : Cl ([b1, b8] ++ S) w23 116 bc c) hok (List.mem_append_right _ hmc) (lt_app (lt_cons (Nat.lt_of_lt_of_le (bk_lt hb3) (Nat.le_trans (Le.drew w1).size hl12.size)) (lt_cons (Nat.lt_of_lt_of_le (bk_lt hb19) (Nat.le_refl _)) lt_nil)) (lt_le hS (Nat.le_trans hl1.size (Nat.le_trans (Le.drew w1).size hl12.size)))) (t := ⟨o.t.se, o.t.rq, o.t.code, o.t.args, o.t.reads, o.t.writes⟩) (rep := o.rep) (RdE.le (hl1.trans ((Le.drew w1).trans hl12)) htc.rd) (RdE.le (hl1.trans ((Le.drew w1).trans hl12)) hta.rd) (RdE.le (hl1.trans ((Le.drew w1).trans hl12)) htr.rd) (RdE.le (hl1.trans ((Le.drew w1).trans hl12)) htw.rd) ho.t ho.b) ?_
   rintro _ w24 (⟨qne6, rfl, qle6⟩ | ⟨qeq6, qxc2, qxa2, qxr6, qxw6, rfl, qlx6, qcl6, qoc2, qoa2, qor6, qow6, qof2⟩)
   ·
    refine ⟨(Lx.trans (Lx.trans (Lx.trans (Lx.refl _ _) (Le.drew w1).lx) hl12.lx) qle6.lx), ?_⟩
    refine LP rfl rfl rfl (xmv rfl) ?_
    refine LP rfl rfl rfl (xext rfl rfl) ?_
    refine LP rfl rfl rfl (xext rfl rfl) ?_
    refine LUt rfl rfl (xsb sz36 (Le.bk qle6 hb19) rfl rfl (agg_cells _) rfl rfl (al_cons rfl (al_cons rfl (al_cons rfl (al_cons rfl (al_cons rfl (al_cons rfl (al_cons rfl (al_cons rfl (al_cons rfl (al_cons rfl al_nil))))))))))) ?_
    rintro w25 ⟨hq7, hb20⟩
    dsimp only [put] at hb20
    refine LP rfl rfl rfl (xas rfl) ?_
    refine LZ ?_
    refine F_seq ?_
    refine W_seq ?_
    refine W_draw (.pure 0 (.pure 1 (.pure 2 (.still 3 (.pure 4 (.still 5 (.pure 6 (.still 7 (.two 8 12 (.pure 9 (.pure 10 (.pure 11 (.one 12 (.tail 13 (.pure 14 .nil)))))) (.one 8 (.pure 9 (.pure 10 (.pure 11 (.tail 13 (.pure 14 .nil))))))))))))))) (Lx [bw] w25) hfol (by kernel_rfl) (pkt (pkb (pkt pkB))) (Le.drew _).lx ?_
    refine LP rfl rfl rfl (xmv rfl) ?_
    refine LP rfl rfl rfl (xnc rfl) ?_
    refine LP rfl rfl rfl (xfa fa48_1 rfl) ?_
    have le9 : Le w w25 := (hq7.le (hl1.trans ((Le.drew w1).trans (hl12.trans qle6))) (inc (Nat.le_trans hl1.size (Le.drew w1).size) hb19z inn))
    refine LS rfl rfl rfl (fun w' hw' => (xld sc31 rfl (cl_bk (hw'.bk (ni_ne n2 ni_nil) (Le.bk le9 hpP)) rfl))) ?_
    refine LP rfl rfl rfl (xfa fa57_1 rfl) ?_
    have le10 : Le w1 w25 := (hq7.le ((Le.drew w1).trans (hl12.trans qle6)) (inc (Le.drew w1).size hb19z inn))
    refine LS rfl rfl rfl (fun w' hw' => (xlb6 ag26 (hw'.bk (ni_new hb3z (Nat.lt_of_lt_of_le (bk_lt hb2) (Nat.le_refl _)) ni_nil) (Le.bk le10 hb3)) rfl rfl rfl rfl rfl rfl rfl)) ?_
    refine LP rfl rfl rfl (xfa fa57_2 rfl) ?_
    refine LS rfl rfl rfl (fun w' hw' => (xld sc3 rfl (cl_bk (hw'.bk (ni_new hb3z (Nat.lt_of_lt_of_le (bk_lt hb2) (Nat.le_refl _)) ni_nil) (Le.bk le10 hb3)) rfl))) ?_
    refine L_two ?_ ?_
    ·
     refine LF rfl rfl rfl has18 rfl (r_submit (S := ([b1, b8] ++ S)) (⟨_, _, _, _, _, (Le.bk (le9.trans (Le.drew w25)) hb2), (RdX.more (Le.rdx (le9.trans (Le.drew w25)) hz6) hz6.rd rfl (inc (Nat.le_refl _) hb3z (inc (Nat.le_trans hl1.size (Le.drew w1).size) hb19z inn))), (RdX.more (Le.rdx (le9.trans (Le.drew w25)) hz7) hz7.rd rfl (inc (Nat.le_refl _) hb3z (inc (Nat.le_trans hl1.size (Le.drew w1).size) hb19z inn))), (RdX.more (Le.rdx (le9.trans (Le.drew w25)) hz8) hz8.rd rfl (inc (Nat.le_refl _) hb3z (inc (Nat.le_trans hl1.size (Le.drew w1).size) hb19z inn))), (RdX.more (Le.rdx (le9.trans (Le.drew w25)) hz9) hz9.rd rfl (inc (Nat.le_refl _) hb3z (inc (Nat.le_trans hl1.size (Le.drew w1).size) hb19z inn))), (RdX.more (Le.rdx (le9.trans (Le.drew w25)) hz10) hz10.rd rfl (inc (Nat.le_refl _) hb3z (inc (Nat.le_trans hl1.size (Le.drew w1).size) hb19z inn)))⟩ : Cl ([b1, b8] ++ S) w25.drew 118 bw c) hok (List.mem_append_right _ hmw) (lt_app (lt_cons (Nat.lt_of_lt_of_le (bk_lt hb3) (Nat.le_trans (Le.drew w1).size (Nat.le_trans hl12.size (Nat.le_trans qle6.size (Nat.le_trans hq7.size (Le.drew w25).size))))) (lt_cons (Nat.lt_of_lt_of_le (bk_lt hb19) (Nat.le_trans qle6.size (Nat.le_trans hq7.size (Le.drew w25).size))) lt_nil)) (lt_le hS (Nat.le_trans hl1.size (Nat.le_trans (Le.drew w1).size (Nat.le_trans hl12.size (Nat.le_trans qle6.size (Nat.le_trans hq7.size (Le.drew w25).size))))))) (t := ⟨o.t.se, o.t.rq, o.t.code, o.t.args, o.t.reads, o.t.writes⟩) (rep := o.rep) (RdX.more (Le.rdx (le9.trans (Le.drew w25)) htc) htc.rd rfl (inc (Nat.le_refl _) hb3z (inc (Nat.le_trans hl1.size (Le.drew w1).size) hb19z inn))) (RdX.more (Le.rdx (le9.trans (Le.drew w25)) hta) hta.rd rfl (inc (Nat.le_refl _) hb3z (inc (Nat.le_trans hl1.size (Le.drew w1).size) hb19z inn))) (RdX.more (Le.rdx (le9.trans (Le.drew w25)) htr) htr.rd rfl (inc (Nat.le_refl _) hb3z (inc (Nat.le_trans hl1.size (Le.drew w1).size) hb19z inn))) (RdX.more (Le.rdx (le9.trans (Le.drew w25)) htw) htw.rd rfl (inc (Nat.le_refl _) hb3z (inc (Nat.le_trans hl1.size (Le.drew w1).size) hb19z inn))) ho.t ho.b) ?_
     rintro _ w26 (⟨qne7, rfl, qle7⟩ | ⟨qeq7, qxr7, qxw7, rfl, qlx7, qcl7, qor7, qow7⟩)
     ·
      refine ⟨(Lx.trans (Lx.trans (Lx.refl _ _) (Le.drew w25).lx) qle7.lx), ?_⟩
      refine LP rfl rfl rfl (xmv rfl) ?_
      refine LP rfl rfl rfl (xext rfl rfl) ?_
      refine LP rfl rfl rfl (xext rfl rfl) ?_
      refine LT rfl rfl rfl (xal zr36) ?_
      rintro _ w27 ⟨b9, rfl, hl13, hb21, hb21z⟩
      refine ⟨(Lx.trans (Lx.trans (Lx.trans (Lx.refl _ _) (Le.drew w25).lx) qle7.lx) hl13.lx), ?_⟩
      refine LUt rfl rfl (xsb sz36 hb21 rfl rfl (agg_cells _) rfl rfl (al_cons rfl (al_cons rfl (al_cons rfl (al_cons rfl (al_cons rfl (al_cons rfl (al_cons rfl (al_cons rfl (al_cons rfl (al_cons rfl al_nil))))))))))) ?_
      rintro w28 ⟨hq8, hb22⟩
      dsimp only [put] at hb22
      refine LP rfl rfl rfl (xas rfl) ?_
      refine LZ ?_
      refine F_seq ?_
      refine W_seq ?_
      refine W_reg (.pure 0 (.pure 1 (.pure 2 (.pure 3 (.one 4 (.one 5 (.one 6 (.pure 7 (.pure 8 .nil))))))))) rfl ?_
      refine LP rfl rfl rfl (xmv rfl) ?_
      refine LP rfl rfl rfl (xmv rfl) ?_
      refine LP rfl rfl rfl (xeql rfl rfl) ?_
      refine L_is 52 (v := .bool true) rfl (by simp) ?_
      refine LP rfl rfl rfl (xmv rfl) ?_
      have le11 : Le w25 w28 := (hq8.le ((Le.drew w25).trans (qle7.trans hl13)) (inc (Nat.le_trans (Le.drew w25).size qle7.size) hb21z inn))
      refine LX rfl rfl rfl (xlb10 ag36 (Le.bk le11 hb20) rfl rfl rfl rfl rfl rfl rfl rfl rfl rfl rfl) trivial ?_
      refine LX rfl rfl rfl (xlb10 ag36 hb22 rfl rfl rfl rfl rfl rfl rfl rfl rfl rfl rfl) trivial ?_
      refine LF rfl rfl rfl has69 rfl (askSame (rep := 0) (least := 0) (q := false) (l := []) (t := ⟨0, 0, [], [], [], []⟩) (RdE.nil _ _) (RdE.nil _ _) (RdE.nil _ _) (RdE.nil _ _) (RdE.nil _ _) (RdE.nil _ _) (RdE.nil _ _) (RdE.nil _ _) (RdE.nil _ _) (RdE.nil _ _)) ?_
      rintro _ w29 ⟨rfl, hl14⟩
      refine ⟨trivial, ?_⟩
      refine LP rfl rfl rfl (xpk1 rfl rfl) ?_
      refine LP rfl rfl rfl (xas rfl) ?_
      refine LZ ?_
      refine F_seq ?_
      refine W_ret ?_
      refine F_ret_block ?_
      refine F_ret_then ?_
      have lx18 : Lx [bc, bw] w w25 := (hq7.drop (Lx.trans (Lx.trans (Lx.trans (Lx.trans (Lx.refl _ _) hl1.lx) (Le.drew w1).lx) hl12.lx) qle6.lx) (dr_new (Nat.le_trans hl1.size (Le.drew w1).size) hb19z dr_nil))
      have lx19 : Lx [bc, bw] w w28 := (hq8.drop (Lx.trans (Lx.trans (Lx.trans lx18 (Le.drew w25).lx) qle7.lx) hl13.lx) (dr_new (Nat.le_trans hl1.size (Nat.le_trans (Le.drew w1).size (Nat.le_trans hl12.size (Nat.le_trans qle6.size (Nat.le_trans hq7.size (Nat.le_trans (Le.drew w25).size qle7.size)))))) hb21z dr_nil))
      have le12 : Le w w28 := (hq8.le (le9.trans ((Le.drew w25).trans (qle7.trans hl13))) (inc (Nat.le_trans hl1.size (Nat.le_trans (Le.drew w1).size (Nat.le_trans hl12.size (Nat.le_trans qle6.size (Nat.le_trans hq7.size (Nat.le_trans (Le.drew w25).size qle7.size)))))) hb21z inn))
      exact F_end1 rfl rfl ⟨_, rfl, S, _, _, rfl, (Lx.trans lx19 hl14.lx).mono (ms_cons hmc (ms_cons hmw ms_nil)), ⟨(Le.bk (le12.trans hl14) hpP), (⟨_, _, _, _, _, (Le.bk (le12.trans hl14) hb1), (Le.rdx (le12.trans hl14) hz1), (Le.rdx (le12.trans hl14) hz2), (Le.rdx (le12.trans hl14) hz3), (Le.rdx (le12.trans hl14) hz4), (Le.rdx (le12.trans hl14) hz5)⟩ : Cl S w29 116 bc c), (⟨_, _, _, _, _, (Le.bk (le12.trans hl14) hb2), (Le.rdx (le12.trans hl14) hz6), (Le.rdx (le12.trans hl14) hz7), (Le.rdx (le12.trans hl14) hz8), (Le.rdx (le12.trans hl14) hz9), (Le.rdx (le12.trans hl14) hz10)⟩ : Cl S w29 118 bw c), hmp, hmc, hmw, hok, hlz, (lt_le hS (Nat.le_trans hl1.size (Nat.le_trans (Le.drew w1).size (Nat.le_trans hl12.size (Nat.le_trans qle6.size (Nat.le_trans hq7.size (Nat.le_trans (Le.drew w25).size (Nat.le_trans qle7.size (Nat.le_trans hl13.size (Nat.le_trans hq8.size hl14.size))))))))))⟩, fun i hi => .inl hi⟩
     ·
      exact absurd qeq7 qne6
    ·
     refine LT rfl rfl rfl (xal zr36) ?_
     rintro _ w30 ⟨b10, rfl, hl15, hb23, hb23z⟩
     refine ⟨(Lx.trans (Lx.trans (Lx.refl _ _) (Le.drew w25).lx) hl15.lx), ?_⟩
     refine LF rfl rfl rfl has18 rfl (r_submit (S := ([b1, b10, b8] ++ S)) (⟨_, _, _, _, _, (Le.bk (le9.trans ((Le.drew w25).trans hl15)) hb2), (RdX.more (Le.rdx (le9.trans ((Le.drew w25).trans hl15)) hz6) hz6.rd rfl (inc (Nat.le_refl _) hb3z (inc (Nat.le_trans hl1.size (Nat.le_trans (Le.drew w1).size (Nat.le_trans hl12.size (Nat.le_trans qle6.size (Nat.le_trans hq7.size (Le.drew w25).size))))) hb23z (inc (Nat.le_trans hl1.size (Le.drew w1).size) hb19z inn)))), (RdX.more (Le.rdx (le9.trans ((Le.drew w25).trans hl15)) hz7) hz7.rd rfl (inc (Nat.le_refl _) hb3z (inc (Nat.le_trans hl1.size (Nat.le_trans (Le.drew w1).size (Nat.le_trans hl12.size (Nat.le_trans qle6.size (Nat.le_trans hq7.size (Le.drew w25).size))))) hb23z (inc (Nat.le_trans hl1.size (Le.drew w1).size) hb19z inn)))), (RdX.more (Le.rdx (le9.trans ((Le.drew w25).trans hl15)) hz8) hz8.rd rfl (inc (Nat.le_refl _) hb3z (inc (Nat.le_trans hl1.size (Nat.le_trans (Le.drew w1).size (Nat.le_trans hl12.size (Nat.le_trans qle6.size (Nat.le_trans hq7.size (Le.drew w25).size))))) hb23z (inc (Nat.le_trans hl1.size (Le.drew w1).size) hb19z inn)))), (RdX.more (Le.rdx (le9.trans ((Le.drew w25).trans hl15)) hz9) hz9.rd rfl (inc (Nat.le_refl _) hb3z (inc (Nat.le_trans hl1.size (Nat.le_trans (Le.drew w1).size (Nat.le_trans hl12.size (Nat.le_trans qle6.size (Nat.le_trans hq7.size (Le.drew w25).size))))) hb23z (inc (Nat.le_trans hl1.size (Le.drew w1).size) hb19z inn)))), (RdX.more (Le.rdx (le9.trans ((Le.drew w25).trans hl15)) hz10) hz10.rd rfl (inc (Nat.le_refl _) hb3z (inc (Nat.le_trans hl1.size (Nat.le_trans (Le.drew w1).size (Nat.le_trans hl12.size (Nat.le_trans qle6.size (Nat.le_trans hq7.size (Le.drew w25).size))))) hb23z (inc (Nat.le_trans hl1.size (Le.drew w1).size) hb19z inn))))⟩ : Cl ([b1, b10, b8] ++ S) w30 118 bw c) hok (List.mem_append_right _ hmw) (lt_app (lt_cons (Nat.lt_of_lt_of_le (bk_lt hb3) (Nat.le_trans (Le.drew w1).size (Nat.le_trans hl12.size (Nat.le_trans qle6.size (Nat.le_trans hq7.size (Nat.le_trans (Le.drew w25).size hl15.size)))))) (lt_cons (Nat.lt_of_lt_of_le (bk_lt hb23) (Nat.le_refl _)) (lt_cons (Nat.lt_of_lt_of_le (bk_lt hb19) (Nat.le_trans qle6.size (Nat.le_trans hq7.size (Nat.le_trans (Le.drew w25).size hl15.size)))) lt_nil))) (lt_le hS (Nat.le_trans hl1.size (Nat.le_trans (Le.drew w1).size (Nat.le_trans hl12.size (Nat.le_trans qle6.size (Nat.le_trans hq7.size (Nat.le_trans (Le.drew w25).size hl15.size)))))))) (t := ⟨o.t.se, o.t.rq, o.t.code, o.t.args, o.t.reads, o.t.writes⟩) (rep := o.rep) (RdX.more (Le.rdx (le9.trans ((Le.drew w25).trans hl15)) htc) htc.rd rfl (inc (Nat.le_refl _) hb3z (inc (Nat.le_trans hl1.size (Nat.le_trans (Le.drew w1).size (Nat.le_trans hl12.size (Nat.le_trans qle6.size (Nat.le_trans hq7.size (Le.drew w25).size))))) hb23z (inc (Nat.le_trans hl1.size (Le.drew w1).size) hb19z inn)))) (RdX.more (Le.rdx (le9.trans ((Le.drew w25).trans hl15)) hta) hta.rd rfl (inc (Nat.le_refl _) hb3z (inc (Nat.le_trans hl1.size (Nat.le_trans (Le.drew w1).size (Nat.le_trans hl12.size (Nat.le_trans qle6.size (Nat.le_trans hq7.size (Le.drew w25).size))))) hb23z (inc (Nat.le_trans hl1.size (Le.drew w1).size) hb19z inn)))) (RdX.more (Le.rdx (le9.trans ((Le.drew w25).trans hl15)) htr) htr.rd rfl (inc (Nat.le_refl _) hb3z (inc (Nat.le_trans hl1.size (Nat.le_trans (Le.drew w1).size (Nat.le_trans hl12.size (Nat.le_trans qle6.size (Nat.le_trans hq7.size (Le.drew w25).size))))) hb23z (inc (Nat.le_trans hl1.size (Le.drew w1).size) hb19z inn)))) (RdX.more (Le.rdx (le9.trans ((Le.drew w25).trans hl15)) htw) htw.rd rfl (inc (Nat.le_refl _) hb3z (inc (Nat.le_trans hl1.size (Nat.le_trans (Le.drew w1).size (Nat.le_trans hl12.size (Nat.le_trans qle6.size (Nat.le_trans hq7.size (Le.drew w25).size))))) hb23z (inc (Nat.le_trans hl1.size (Le.drew w1).size) hb19z inn)))) ho.t ho.b) ?_
     rintro _ w31 (⟨qne8, rfl, qle8⟩ | ⟨qeq8, qxr8, qxw8, rfl, qlx8, qcl8, qor8, qow8⟩)
     ·
      refine ⟨(Lx.trans (Lx.trans (Lx.trans (Lx.refl _ _) (Le.drew w25).lx) hl15.lx) qle8.lx), ?_⟩
      refine LP rfl rfl rfl (xmv rfl) ?_
      refine LP rfl rfl rfl (xext rfl rfl) ?_
      refine LP rfl rfl rfl (xext rfl rfl) ?_
      refine LUt rfl rfl (xsb sz36 (Le.bk qle8 hb23) rfl rfl (agg_cells _) rfl rfl (al_cons rfl (al_cons rfl (al_cons rfl (al_cons rfl (al_cons rfl (al_cons rfl (al_cons rfl (al_cons rfl (al_cons rfl (al_cons rfl al_nil))))))))))) ?_
      rintro w32 ⟨hq9, hb24⟩
      dsimp only [put] at hb24
      refine LP rfl rfl rfl (xas rfl) ?_
      refine LZ ?_
      refine F_seq ?_
      refine W_seq ?_
      refine W_reg (.pure 0 (.pure 1 (.pure 2 (.pure 3 (.one 4 (.one 5 (.one 6 (.pure 7 (.pure 8 .nil))))))))) rfl ?_
      refine LP rfl rfl rfl (xmv rfl) ?_
      refine LP rfl rfl rfl (xmv rfl) ?_
      refine LP rfl rfl rfl (xeql rfl rfl) ?_
      refine L_is 52 (v := .bool true) rfl (by simp) ?_
      refine LP rfl rfl rfl (xmv rfl) ?_
      have le13 : Le w25 w32 := (hq9.le ((Le.drew w25).trans (hl15.trans qle8)) (inc (Le.drew w25).size hb23z inn))
      refine LX rfl rfl rfl (xlb10 ag36 (Le.bk le13 hb20) rfl rfl rfl rfl rfl rfl rfl rfl rfl rfl rfl) trivial ?_
      refine LX rfl rfl rfl (xlb10 ag36 hb24 rfl rfl rfl rfl rfl rfl rfl rfl rfl rfl rfl) trivial ?_
      refine LF rfl rfl rfl has69 rfl (askSame (rep := 0) (least := 0) (q := false) (l := []) (t := ⟨0, 0, [], [], [], []⟩) (RdE.nil _ _) (RdE.nil _ _) (RdE.nil _ _) (RdE.nil _ _) (RdE.nil _ _) (RdE.nil _ _) (RdE.nil _ _) (RdE.nil _ _) (RdE.nil _ _) (RdE.nil _ _)) ?_
      rintro _ w33 ⟨rfl, hl16⟩
      refine ⟨trivial, ?_⟩
      refine LP rfl rfl rfl (xpk1 rfl rfl) ?_
      refine LP rfl rfl rfl (xas rfl) ?_
      refine LZ ?_
      refine F_seq ?_
      refine W_ret ?_
      refine F_ret_block ?_
      refine F_ret_then ?_
      have lx20 : Lx [bc, bw] w w25 := (hq7.drop (Lx.trans (Lx.trans (Lx.trans (Lx.trans (Lx.refl _ _) hl1.lx) (Le.drew w1).lx) hl12.lx) qle6.lx) (dr_new (Nat.le_trans hl1.size (Le.drew w1).size) hb19z dr_nil))
      have lx21 : Lx [bc, bw] w w32 := (hq9.drop (Lx.trans (Lx.trans (Lx.trans lx20 (Le.drew w25).lx) hl15.lx) qle8.lx) (dr_new (Nat.le_trans hl1.size (Nat.le_trans (Le.drew w1).size (Nat.le_trans hl12.size (Nat.le_trans qle6.size (Nat.le_trans hq7.size (Le.drew w25).size))))) hb23z dr_nil))
      have le14 : Le w w32 := (hq9.le (le9.trans ((Le.drew w25).trans (hl15.trans qle8))) (inc (Nat.le_trans hl1.size (Nat.le_trans (Le.drew w1).size (Nat.le_trans hl12.size (Nat.le_trans qle6.size (Nat.le_trans hq7.size (Le.drew w25).size))))) hb23z inn))
      exact F_end1 rfl rfl ⟨_, rfl, S, _, _, rfl, (Lx.trans lx21 hl16.lx).mono (ms_cons hmc (ms_cons hmw ms_nil)), ⟨(Le.bk (le14.trans hl16) hpP), (⟨_, _, _, _, _, (Le.bk (le14.trans hl16) hb1), (Le.rdx (le14.trans hl16) hz1), (Le.rdx (le14.trans hl16) hz2), (Le.rdx (le14.trans hl16) hz3), (Le.rdx (le14.trans hl16) hz4), (Le.rdx (le14.trans hl16) hz5)⟩ : Cl S w33 116 bc c), (⟨_, _, _, _, _, (Le.bk (le14.trans hl16) hb2), (Le.rdx (le14.trans hl16) hz6), (Le.rdx (le14.trans hl16) hz7), (Le.rdx (le14.trans hl16) hz8), (Le.rdx (le14.trans hl16) hz9), (Le.rdx (le14.trans hl16) hz10)⟩ : Cl S w33 118 bw c), hmp, hmc, hmw, hok, hlz, (lt_le hS (Nat.le_trans hl1.size (Nat.le_trans (Le.drew w1).size (Nat.le_trans hl12.size (Nat.le_trans qle6.size (Nat.le_trans hq7.size (Nat.le_trans (Le.drew w25).size (Nat.le_trans hl15.size (Nat.le_trans qle8.size (Nat.le_trans hq9.size hl16.size))))))))))⟩, fun i hi => .inl hi⟩
     ·
      exact absurd qeq8 qne6
   ·
    have hk102 := qlx6.bk (ni_ne n1 ni_nil) (Le.bk (hl1.trans ((Le.drew w1).trans hl12)) hpP)
    have hk103 := Lx.rdx2 qlx6 hz1.rd rfl (dr_in hmc dr_nil) (Le.rdx (hl1.trans ((Le.drew w1).trans hl12)) hz1)
    have hk104 := Lx.rdx2 qlx6 hz2.rd rfl (dr_in hmc dr_nil) (Le.rdx (hl1.trans ((Le.drew w1).trans hl12)) hz2)
    have hk105 := Lx.rdx2 qlx6 hz3.rd rfl (dr_in hmc dr_nil) (Le.rdx (hl1.trans ((Le.drew w1).trans hl12)) hz3)
    have hk106 := Lx.rdx2 qlx6 hz4.rd rfl (dr_in hmc dr_nil) (Le.rdx (hl1.trans ((Le.drew w1).trans hl12)) hz4)
    have hk107 := Lx.rdx2 qlx6 hz5.rd rfl (dr_in hmc dr_nil) (Le.rdx (hl1.trans ((Le.drew w1).trans hl12)) hz5)
    have hk108 := qlx6.bk (ni_ne (Ne.symm n3) ni_nil) (Le.bk (hl1.trans ((Le.drew w1).trans hl12)) hb2)
    have hk109 := Lx.rdx2 qlx6 hz6.rd rfl (dr_in hmc dr_nil) (Le.rdx (hl1.trans ((Le.drew w1).trans hl12)) hz6)
    have hk110 := Lx.rdx2 qlx6 hz7.rd rfl (dr_in hmc dr_nil) (Le.rdx (hl1.trans ((Le.drew w1).trans hl12)) hz7)
    have hk111 := Lx.rdx2 qlx6 hz8.rd rfl (dr_in hmc dr_nil) (Le.rdx (hl1.trans ((Le.drew w1).trans hl12)) hz8)
    have hk112 := Lx.rdx2 qlx6 hz9.rd rfl (dr_in hmc dr_nil) (Le.rdx (hl1.trans ((Le.drew w1).trans hl12)) hz9)
    have hk113 := Lx.rdx2 qlx6 hz10.rd rfl (dr_in hmc dr_nil) (Le.rdx (hl1.trans ((Le.drew w1).trans hl12)) hz10)
    have hk114 := Lx.rdx2 qlx6 htc.rd rfl (dr_in hmc dr_nil) (Le.rdx (hl1.trans ((Le.drew w1).trans hl12)) htc)
    have hk115 := Lx.rdx2 qlx6 hta.rd rfl (dr_in hmc dr_nil) (Le.rdx (hl1.trans ((Le.drew w1).trans hl12)) hta)
    have hk116 := Lx.rdx2 qlx6 htr.rd rfl (dr_in hmc dr_nil) (Le.rdx (hl1.trans ((Le.drew w1).trans hl12)) htr)
    have hk117 := Lx.rdx2 qlx6 htw.rd rfl (dr_in hmc dr_nil) (Le.rdx (hl1.trans ((Le.drew w1).trans hl12)) htw)
    have hk118 := Lx.rdx2 qlx6 hx.rd rfl (dr_in hmc dr_nil) (Le.rdx (hl1.trans ((Le.drew w1).trans hl12)) hx)
    have hk119 := Lx.rdx2 qlx6 hk.rd rfl (dr_in hmc dr_nil) (Le.rdx (hl1.trans ((Le.drew w1).trans hl12)) hk)
    have hk120 := Lx.rdx2 qlx6 hp.rd rfl (dr_in hmc dr_nil) (Le.rdx (hl1.trans ((Le.drew w1).trans hl12)) hp)
    have hk121 := qlx6.bk (ni_new hb3z (Nat.lt_of_lt_of_le (bk_lt hb1) (Nat.le_refl _)) ni_nil) (Le.bk ((Le.drew w1).trans hl12) hb3)
    have hk122 := qlx6.bk (ni_new hb19z (Nat.lt_of_lt_of_le (bk_lt hb1) (Nat.le_trans hl1.size (Le.drew w1).size)) ni_nil) hb19
    obtain ⟨z26, z27, z28, z29, z30, hb25, hz26, hz27, hz28, hz29, hz30⟩ := qcl6.less fun i hi => List.mem_append_right _ hi
    have lx22 : Lx [bc] w1 w24 := (qlx6.drop (Lx.trans (Lx.trans (Lx.refl _ _) (Le.drew w1).lx) hl12.lx) (dr_in (by simp) dr_nil))
    refine ⟨lx22, ?_⟩
    refine LP rfl rfl rfl (xmv rfl) ?_
    refine LP rfl rfl rfl (xext rfl rfl) ?_
    refine LP rfl rfl rfl (xext rfl rfl) ?_
    refine LUt rfl rfl (xsb sz36 hk122 rfl rfl (agg_cells _) rfl rfl (al_cons rfl (al_cons rfl (al_cons rfl (al_cons qoc2.rd.sh.one (al_cons qoa2.rd.sh.one (al_cons qor6.rd.sh.one (al_cons qow6.rd.sh.one (al_cons rfl (al_cons rfl (al_cons rfl al_nil))))))))))) ?_
    rintro w34 ⟨hq10, hb26⟩
    dsimp only [put] at hb26
    have hk123 := hq10.bk (ni_old (Nat.lt_of_lt_of_le (bk_lt hpP) (Nat.le_trans hl1.size (Le.drew w1).size)) hb19z ni_nil) hk102
    have hk124 := hq10.bk (ni_old (Nat.lt_of_lt_of_le (bk_lt hb1) (Nat.le_trans hl1.size (Le.drew w1).size)) hb19z ni_nil) hb25
    have hk125 := Lx.rdx2 hq10 hz26.rd rfl (dr_in (by simp) dr_nil) hz26
    have hk126 := Lx.rdx2 hq10 hz27.rd rfl (dr_in (by simp) dr_nil) hz27
    have hk127 := Lx.rdx2 hq10 hz28.rd rfl (dr_in (by simp) dr_nil) hz28
    have hk128 := Lx.rdx2 hq10 hz29.rd rfl (dr_in (by simp) dr_nil) hz29
    have hk129 := Lx.rdx2 hq10 hz30.rd rfl (dr_in (by simp) dr_nil) hz30
    have hk130 := hq10.bk (ni_old (Nat.lt_of_lt_of_le (bk_lt hb2) (Nat.le_trans hl1.size (Le.drew w1).size)) hb19z ni_nil) hk108
    have hk131 := Lx.rdx2 hq10 hz6.rd rfl (dr_new (Nat.le_trans hl1.size (Le.drew w1).size) hb19z dr_nil) hk109
    have hk132 := Lx.rdx2 hq10 hz7.rd rfl (dr_new (Nat.le_trans hl1.size (Le.drew w1).size) hb19z dr_nil) hk110
    have hk133 := Lx.rdx2 hq10 hz8.rd rfl (dr_new (Nat.le_trans hl1.size (Le.drew w1).size) hb19z dr_nil) hk111
    have hk134 := Lx.rdx2 hq10 hz9.rd rfl (dr_new (Nat.le_trans hl1.size (Le.drew w1).size) hb19z dr_nil) hk112
    have hk135 := Lx.rdx2 hq10 hz10.rd rfl (dr_new (Nat.le_trans hl1.size (Le.drew w1).size) hb19z dr_nil) hk113
    have hk136 := Lx.rdx2 hq10 htc.rd rfl (dr_new (Nat.le_trans hl1.size (Le.drew w1).size) hb19z dr_nil) hk114
    have hk137 := Lx.rdx2 hq10 hta.rd rfl (dr_new (Nat.le_trans hl1.size (Le.drew w1).size) hb19z dr_nil) hk115
    have hk138 := Lx.rdx2 hq10 htr.rd rfl (dr_new (Nat.le_trans hl1.size (Le.drew w1).size) hb19z dr_nil) hk116
    have hk139 := Lx.rdx2 hq10 htw.rd rfl (dr_new (Nat.le_trans hl1.size (Le.drew w1).size) hb19z dr_nil) hk117
    have hk140 := Lx.rdx2 hq10 hx.rd rfl (dr_new (Nat.le_trans hl1.size (Le.drew w1).size) hb19z dr_nil) hk118
    have hk141 := Lx.rdx2 hq10 hk.rd rfl (dr_new (Nat.le_trans hl1.size (Le.drew w1).size) hb19z dr_nil) hk119
    have hk142 := Lx.rdx2 hq10 hp.rd rfl (dr_new (Nat.le_trans hl1.size (Le.drew w1).size) hb19z dr_nil) hk120
    have hk143 := hq10.bk (ni_old (Nat.lt_of_lt_of_le (bk_lt hb3) (Le.drew w1).size) hb19z ni_nil) hk121
    have hk144 := hq10.ow (Off.cons (Ow.ne_new qoc2 (Nat.lt_of_lt_of_le (bk_lt hb19) (Nat.le_refl _))) Off.nil) qoc2
    have hk145 := hq10.ow (Off.cons (Ow.ne_new qoa2 (Nat.lt_of_lt_of_le (bk_lt hb19) (Nat.le_refl _))) Off.nil) qoa2
    have hk146 := hq10.ow (Off.cons (Ow.ne_new qor6 (Nat.lt_of_lt_of_le (bk_lt hb19) (Nat.le_refl _))) Off.nil) qor6
    have hk147 := hq10.ow (Off.cons (Ow.ne_new qow6 (Nat.lt_of_lt_of_le (bk_lt hb19) (Nat.le_refl _))) Off.nil) qow6
    refine LP rfl rfl rfl (xas rfl) ?_
    refine LZ ?_
    refine F_seq ?_
    refine W_seq ?_
    refine W_draw (.pure 0 (.pure 1 (.pure 2 (.still 3 (.pure 4 (.still 5 (.pure 6 (.still 7 (.two 8 12 (.pure 9 (.pure 10 (.pure 11 (.one 12 (.tail 13 (.pure 14 .nil)))))) (.one 8 (.pure 9 (.pure 10 (.pure 11 (.tail 13 (.pure 14 .nil))))))))))))))) (Lx [bw] w34) hfol (by kernel_rfl) (pkt (pkb (pkt pkB))) (Le.drew _).lx ?_
    refine LP rfl rfl rfl (xmv rfl) ?_
    refine LP rfl rfl rfl (xnc rfl) ?_
    refine LP rfl rfl rfl (xfa fa48_1 rfl) ?_
    refine LS rfl rfl rfl (fun w' hw' => (xld sc31 rfl (cl_bk (hw'.bk (ni_ne n2 ni_nil) hk123) rfl))) ?_
    refine LP rfl rfl rfl (xfa fa57_1 rfl) ?_
    refine LS rfl rfl rfl (fun w' hw' => (xlb6 ag26 (hw'.bk (ni_new hb3z (Nat.lt_of_lt_of_le (bk_lt hb2) (Nat.le_refl _)) ni_nil) hk143) rfl rfl rfl rfl rfl rfl rfl)) ?_
    refine LP rfl rfl rfl (xfa fa57_2 rfl) ?_
    refine LS rfl rfl rfl (fun w' hw' => (xld sc3 rfl (cl_bk (hw'.bk (ni_new hb3z (Nat.lt_of_lt_of_le (bk_lt hb2) (Nat.le_refl _)) ni_nil) hk143) rfl))) ?_
    refine L_two ?_ ?_
    ·
     refine LF rfl rfl rfl has18 rfl (r_submit (S := ([b1, b8] ++ S)) (⟨_, _, _, _, _, (Le.bk (Le.drew w34) hk130), (RdX.more (Le.rdx (Le.drew w34) hk131) hz6.rd rfl (inc (Nat.le_refl _) hb3z (inc (Nat.le_trans hl1.size (Le.drew w1).size) hb19z inn))), (RdX.more (Le.rdx (Le.drew w34) hk132) hz7.rd rfl (inc (Nat.le_refl _) hb3z (inc (Nat.le_trans hl1.size (Le.drew w1).size) hb19z inn))), (RdX.more (Le.rdx (Le.drew w34) hk133) hz8.rd rfl (inc (Nat.le_refl _) hb3z (inc (Nat.le_trans hl1.size (Le.drew w1).size) hb19z inn))), (RdX.more (Le.rdx (Le.drew w34) hk134) hz9.rd rfl (inc (Nat.le_refl _) hb3z (inc (Nat.le_trans hl1.size (Le.drew w1).size) hb19z inn))), (RdX.more (Le.rdx (Le.drew w34) hk135) hz10.rd rfl (inc (Nat.le_refl _) hb3z (inc (Nat.le_trans hl1.size (Le.drew w1).size) hb19z inn)))⟩ : Cl ([b1, b8] ++ S) w34.drew 118 bw c) hok (List.mem_append_right _ hmw) (lt_app (lt_cons (Nat.lt_of_lt_of_le (bk_lt hb3) (Nat.le_trans (Le.drew w1).size (Nat.le_trans hl12.size (Nat.le_trans qlx6.size (Nat.le_trans hq10.size (Le.drew w34).size))))) (lt_cons (Nat.lt_of_lt_of_le (bk_lt hb19) (Nat.le_trans qlx6.size (Nat.le_trans hq10.size (Le.drew w34).size))) lt_nil)) (lt_le hS (Nat.le_trans hl1.size (Nat.le_trans (Le.drew w1).size (Nat.le_trans hl12.size (Nat.le_trans qlx6.size (Nat.le_trans hq10.size (Le.drew w34).size))))))) (t := ⟨o.t.se, o.t.rq, o.t.code, o.t.args, o.t.reads, o.t.writes⟩) (rep := o.rep) (RdX.more (Le.rdx (Le.drew w34) hk136) htc.rd rfl (inc (Nat.le_refl _) hb3z (inc (Nat.le_trans hl1.size (Le.drew w1).size) hb19z inn))) (RdX.more (Le.rdx (Le.drew w34) hk137) hta.rd rfl (inc (Nat.le_refl _) hb3z (inc (Nat.le_trans hl1.size (Le.drew w1).size) hb19z inn))) (RdX.more (Le.rdx (Le.drew w34) hk138) htr.rd rfl (inc (Nat.le_refl _) hb3z (inc (Nat.le_trans hl1.size (Le.drew w1).size) hb19z inn))) (RdX.more (Le.rdx (Le.drew w34) hk139) htw.rd rfl (inc (Nat.le_refl _) hb3z (inc (Nat.le_trans hl1.size (Le.drew w1).size) hb19z inn))) ho.t ho.b) ?_
     rintro _ w35 (⟨qne9, rfl, qle9⟩ | ⟨qeq9, qxr9, qxw9, rfl, qlx9, qcl9, qor9, qow9⟩)
     ·
      exact absurd qeq6 qne9
     ·
      have hk148 := qlx9.bk (ni_ne n2 ni_nil) (Le.bk (Le.drew w34) hk123)
      have hk149 := qlx9.bk (ni_ne n3 ni_nil) (Le.bk (Le.drew w34) hk124)
      have hk150 := Lx.rdx2 qlx9 hz26.rd rfl (dr_in (List.mem_append_right _ hmw) dr_nil) (Le.rdx (Le.drew w34) hk125)
      have hk151 := Lx.rdx2 qlx9 hz27.rd rfl (dr_in (List.mem_append_right _ hmw) dr_nil) (Le.rdx (Le.drew w34) hk126)
      have hk152 := Lx.rdx2 qlx9 hz28.rd rfl (dr_in (List.mem_append_right _ hmw) dr_nil) (Le.rdx (Le.drew w34) hk127)
      have hk153 := Lx.rdx2 qlx9 hz29.rd rfl (dr_in (List.mem_append_right _ hmw) dr_nil) (Le.rdx (Le.drew w34) hk128)
      have hk154 := Lx.rdx2 qlx9 hz30.rd rfl (dr_in (List.mem_append_right _ hmw) dr_nil) (Le.rdx (Le.drew w34) hk129)
      have hk155 := Lx.rdx2 qlx9 hz6.rd rfl (dr_in hmw dr_nil) (Le.rdx (Le.drew w34) hk131)
      have hk156 := Lx.rdx2 qlx9 hz7.rd rfl (dr_in hmw dr_nil) (Le.rdx (Le.drew w34) hk132)
      have hk157 := Lx.rdx2 qlx9 hz8.rd rfl (dr_in hmw dr_nil) (Le.rdx (Le.drew w34) hk133)
      have hk158 := Lx.rdx2 qlx9 hz9.rd rfl (dr_in hmw dr_nil) (Le.rdx (Le.drew w34) hk134)
      have hk159 := Lx.rdx2 qlx9 hz10.rd rfl (dr_in hmw dr_nil) (Le.rdx (Le.drew w34) hk135)
      have hk160 := Lx.rdx2 qlx9 htc.rd rfl (dr_in hmw dr_nil) (Le.rdx (Le.drew w34) hk136)
      have hk161 := Lx.rdx2 qlx9 hta.rd rfl (dr_in hmw dr_nil) (Le.rdx (Le.drew w34) hk137)
      have hk162 := Lx.rdx2 qlx9 htr.rd rfl (dr_in hmw dr_nil) (Le.rdx (Le.drew w34) hk138)
      have hk163 := Lx.rdx2 qlx9 htw.rd rfl (dr_in hmw dr_nil) (Le.rdx (Le.drew w34) hk139)
      have hk164 := Lx.rdx2 qlx9 hx.rd rfl (dr_in hmw dr_nil) (Le.rdx (Le.drew w34) hk140)
      have hk165 := Lx.rdx2 qlx9 hk.rd rfl (dr_in hmw dr_nil) (Le.rdx (Le.drew w34) hk141)
      have hk166 := Lx.rdx2 qlx9 hp.rd rfl (dr_in hmw dr_nil) (Le.rdx (Le.drew w34) hk142)
      have hk167 := qlx9.bk (ni_new hb3z (Nat.lt_of_lt_of_le (bk_lt hb2) (Nat.le_refl _)) ni_nil) (Le.bk (Le.drew w34) hk143)
      have hk168 := qlx9.bk (ni_new hb19z (Nat.lt_of_lt_of_le (bk_lt hb2) (Nat.le_trans hl1.size (Le.drew w1).size)) ni_nil) (Le.bk (Le.drew w34) hb26)
      have hk169 := qlx9.ow (Off.cons (Ow.ne_new qoc2 (Nat.lt_of_lt_of_le (bk_lt hb2) (Nat.le_trans hl1.size (Nat.le_trans (Le.drew w1).size hl12.size)))) Off.nil) (hk144.le (Le.drew w34))
      have hk170 := qlx9.ow (Off.cons (Ow.ne_new qoa2 (Nat.lt_of_lt_of_le (bk_lt hb2) (Nat.le_trans hl1.size (Nat.le_trans (Le.drew w1).size hl12.size)))) Off.nil) (hk145.le (Le.drew w34))
      have hk171 := qlx9.ow (Off.cons (Ow.ne_new qor6 (Nat.lt_of_lt_of_le (bk_lt hb2) (Nat.le_trans hl1.size (Nat.le_trans (Le.drew w1).size hl12.size)))) Off.nil) (hk146.le (Le.drew w34))
      have hk172 := qlx9.ow (Off.cons (Ow.ne_new qow6 (Nat.lt_of_lt_of_le (bk_lt hb2) (Nat.le_trans hl1.size (Nat.le_trans (Le.drew w1).size hl12.size)))) Off.nil) (hk147.le (Le.drew w34))
      obtain ⟨z31, z32, z33, z34, z35, hb27, hz31, hz32, hz33, hz34, hz35⟩ := qcl9
      have lx23 : Lx [bw] w34 w35 := (qlx9.drop (Lx.trans (Lx.refl _ _) (Le.drew w34).lx) (dr_in (by simp) dr_nil))
      refine ⟨lx23, ?_⟩
      refine LP rfl rfl rfl (xmv rfl) ?_
      refine LP rfl rfl rfl (xext rfl rfl) ?_
      refine LP rfl rfl rfl (xext rfl rfl) ?_
      refine LT rfl rfl rfl (xal zr36) ?_
      rintro _ w36 ⟨b11, rfl, hl17, hb28, hb28z⟩
      have lx24 : Lx [bw] w34 w35 := (qlx9.drop (Lx.trans (Lx.refl _ _) (Le.drew w34).lx) (dr_in (by simp) dr_nil))
      refine ⟨(Lx.trans lx24 hl17.lx), ?_⟩
      refine LUt rfl rfl (xsb sz36 hb28 rfl rfl (agg_cells _) rfl rfl (al_cons rfl (al_cons rfl (al_cons rfl (al_cons hk160.rd.sh.one (al_cons hk161.rd.sh.one (al_cons qor9.rd.sh.one (al_cons qow9.rd.sh.one (al_cons rfl (al_cons rfl (al_cons rfl al_nil))))))))))) ?_
      rintro w37 ⟨hq11, hb29⟩
      dsimp only [put] at hb29
      refine LP rfl rfl rfl (xas rfl) ?_
      refine LZ ?_
      refine F_seq ?_
      refine W_seq ?_
      refine W_reg (.pure 0 (.pure 1 (.pure 2 (.pure 3 (.one 4 (.one 5 (.one 6 (.pure 7 (.pure 8 .nil))))))))) rfl ?_
      refine LP rfl rfl rfl (xmv rfl) ?_
      refine LP rfl rfl rfl (xmv rfl) ?_
      refine LP rfl rfl rfl (xeql rfl rfl) ?_
      refine L_is 52 (v := .bool true) rfl (by simp) ?_
      refine LP rfl rfl rfl (xmv rfl) ?_
      have le15 : Le w35 w37 := (hq11.le hl17 (inc (Nat.le_refl _) hb28z inn))
      refine LX rfl rfl rfl (xlb10 ag36 (Le.bk le15 hk168) rfl rfl rfl rfl rfl rfl rfl rfl rfl rfl rfl) trivial ?_
      refine LX rfl rfl rfl (xlb10 ag36 hb29 rfl rfl rfl rfl rfl rfl rfl rfl rfl rfl rfl) trivial ?_
      refine LF rfl rfl rfl has69 rfl (askSame (rep := o.rep) (least := 0) (q := false) (l := []) (t := ⟨(normT c ⟨o.t.se, o.t.rq, o.t.code, o.t.args, o.t.reads, o.t.writes⟩).se, (normT c ⟨o.t.se, o.t.rq, o.t.code, o.t.args, o.t.reads, o.t.writes⟩).rq, (normT c ⟨o.t.se, o.t.rq, o.t.code, o.t.args, o.t.reads, o.t.writes⟩).code, (normT c ⟨o.t.se, o.t.rq, o.t.code, o.t.args, o.t.reads, o.t.writes⟩).args, (normT c ⟨o.t.se, o.t.rq, o.t.code, o.t.args, o.t.reads, o.t.writes⟩).reads, (normT c ⟨o.t.se, o.t.rq, o.t.code, o.t.args, o.t.reads, o.t.writes⟩).writes⟩) (RdE.le le15 hk169.rd) (RdE.le le15 hk170.rd) (RdE.le le15 hk171.rd) (RdE.le le15 hk172.rd) (RdE.le le15 hk160.rd) (RdE.le le15 hk161.rd) (RdE.le le15 qor9.rd) (RdE.le le15 qow9.rd) (RdE.nil _ _) (RdE.nil _ _)) ?_
      rintro _ w38 ⟨rfl, hl18⟩
      refine ⟨trivial, ?_⟩
      refine LP rfl rfl rfl (xpk1 rfl rfl) ?_
      refine LP rfl rfl rfl (xas rfl) ?_
      refine LZ ?_
      refine F_seq ?_
      refine W_ret ?_
      refine F_ret_block ?_
      refine F_ret_then ?_
      have lx25 : Lx [bc, bw] w w24 := (qlx6.drop (Lx.trans (Lx.trans (Lx.trans (Lx.refl _ _) hl1.lx) (Le.drew w1).lx) hl12.lx) (dr_in (by simp) dr_nil))
      have lx26 : Lx [bc, bw] w w34 := (hq10.drop lx25 (dr_new (Nat.le_trans hl1.size (Le.drew w1).size) hb19z dr_nil))
      have lx27 : Lx [bc, bw] w w35 := (qlx9.drop (Lx.trans lx26 (Le.drew w34).lx) (dr_in (by simp) dr_nil))
      have lx28 : Lx [bc, bw] w w37 := (hq11.drop (Lx.trans lx27 hl17.lx) (dr_new (Nat.le_trans hl1.size (Nat.le_trans (Le.drew w1).size (Nat.le_trans hl12.size (Nat.le_trans qlx6.size (Nat.le_trans hq10.size (Nat.le_trans (Le.drew w34).size qlx9.size)))))) hb28z dr_nil))
      exact F_end1 rfl rfl ⟨_, rfl, S, _, _, rfl, (Lx.trans lx28 hl18.lx).mono (ms_cons hmc (ms_cons hmw ms_nil)), ⟨(Le.bk (le15.trans hl18) hk148), (⟨_, _, _, _, _, (Le.bk (le15.trans hl18) hk149), ((Le.rdx (le15.trans hl18) hk150).less fun i hi => List.mem_append_right _ hi), ((Le.rdx (le15.trans hl18) hk151).less fun i hi => List.mem_append_right _ hi), ((Le.rdx (le15.trans hl18) hk152).less fun i hi => List.mem_append_right _ hi), ((Le.rdx (le15.trans hl18) hk153).less fun i hi => List.mem_append_right _ hi), ((Le.rdx (le15.trans hl18) hk154).less fun i hi => List.mem_append_right _ hi)⟩ : Cl S w38 116 bc (submitC c ⟨o.t.se, o.t.rq, o.t.code, o.t.args, o.t.reads, o.t.writes⟩ o.rep)), (⟨_, _, _, _, _, (Le.bk (le15.trans hl18) hb27), ((Le.rdx (le15.trans hl18) hz31).less fun i hi => List.mem_append_right _ hi), ((Le.rdx (le15.trans hl18) hz32).less fun i hi => List.mem_append_right _ hi), ((Le.rdx (le15.trans hl18) hz33).less fun i hi => List.mem_append_right _ hi), ((Le.rdx (le15.trans hl18) hz34).less fun i hi => List.mem_append_right _ hi), ((Le.rdx (le15.trans hl18) hz35).less fun i hi => List.mem_append_right _ hi)⟩ : Cl S w38 118 bw (submitC c ⟨o.t.se, o.t.rq, o.t.code, o.t.args, o.t.reads, o.t.writes⟩ o.rep)), hmp, hmc, hmw, (submitC_ok hok ho.t qeq6), hlz, (lt_le hS (Nat.le_trans hl1.size (Nat.le_trans (Le.drew w1).size (Nat.le_trans hl12.size (Nat.le_trans qlx6.size (Nat.le_trans hq10.size (Nat.le_trans (Le.drew w34).size (Nat.le_trans qlx9.size (Nat.le_trans hl17.size (Nat.le_trans hq11.size hl18.size))))))))))⟩, fun i hi => .inl hi⟩
    ·
     refine LT rfl rfl rfl (xal zr36) ?_
     rintro _ w39 ⟨b12, rfl, hl19, hb30, hb30z⟩
     refine ⟨(Lx.trans (Lx.trans (Lx.refl _ _) (Le.drew w34).lx) hl19.lx), ?_⟩
     refine LF rfl rfl rfl has18 rfl (r_submit (S := ([b1, b12, b8] ++ S)) (⟨_, _, _, _, _, (Le.bk ((Le.drew w34).trans hl19) hk130), (RdX.more (Le.rdx ((Le.drew w34).trans hl19) hk131) hz6.rd rfl (inc (Nat.le_refl _) hb3z (inc (Nat.le_trans hl1.size (Nat.le_trans (Le.drew w1).size (Nat.le_trans hl12.size (Nat.le_trans qlx6.size (Nat.le_trans hq10.size (Le.drew w34).size))))) hb30z (inc (Nat.le_trans hl1.size (Le.drew w1).size) hb19z inn)))), (RdX.more (Le.rdx ((Le.drew w34).trans hl19) hk132) hz7.rd rfl (inc (Nat.le_refl _) hb3z (inc (Nat.le_trans hl1.size (Nat.le_trans (Le.drew w1).size (Nat.le_trans hl12.size (Nat.le_trans qlx6.size (Nat.le_trans hq10.size (Le.drew w34).size))))) hb30z (inc (Nat.le_trans hl1.size (Le.drew w1).size) hb19z inn)))), (RdX.more (Le.rdx ((Le.drew w34).trans hl19) hk133) hz8.rd rfl (inc (Nat.le_refl _) hb3z (inc (Nat.le_trans hl1.size (Nat.le_trans (Le.drew w1).size (Nat.le_trans hl12.size (Nat.le_trans qlx6.size (Nat.le_trans hq10.size (Le.drew w34).size))))) hb30z (inc (Nat.le_trans hl1.size (Le.drew w1).size) hb19z inn)))), (RdX.more (Le.rdx ((Le.drew w34).trans hl19) hk134) hz9.rd rfl (inc (Nat.le_refl _) hb3z (inc (Nat.le_trans hl1.size (Nat.le_trans (Le.drew w1).size (Nat.le_trans hl12.size (Nat.le_trans qlx6.size (Nat.le_trans hq10.size (Le.drew w34).size))))) hb30z (inc (Nat.le_trans hl1.size (Le.drew w1).size) hb19z inn)))), (RdX.more (Le.rdx ((Le.drew w34).trans hl19) hk135) hz10.rd rfl (inc (Nat.le_refl _) hb3z (inc (Nat.le_trans hl1.size (Nat.le_trans (Le.drew w1).size (Nat.le_trans hl12.size (Nat.le_trans qlx6.size (Nat.le_trans hq10.size (Le.drew w34).size))))) hb30z (inc (Nat.le_trans hl1.size (Le.drew w1).size) hb19z inn))))⟩ : Cl ([b1, b12, b8] ++ S) w39 118 bw c) hok (List.mem_append_right _ hmw) (lt_app (lt_cons (Nat.lt_of_lt_of_le (bk_lt hb3) (Nat.le_trans (Le.drew w1).size (Nat.le_trans hl12.size (Nat.le_trans qlx6.size (Nat.le_trans hq10.size (Nat.le_trans (Le.drew w34).size hl19.size)))))) (lt_cons (Nat.lt_of_lt_of_le (bk_lt hb30) (Nat.le_refl _)) (lt_cons (Nat.lt_of_lt_of_le (bk_lt hb19) (Nat.le_trans qlx6.size (Nat.le_trans hq10.size (Nat.le_trans (Le.drew w34).size hl19.size)))) lt_nil))) (lt_le hS (Nat.le_trans hl1.size (Nat.le_trans (Le.drew w1).size (Nat.le_trans hl12.size (Nat.le_trans qlx6.size (Nat.le_trans hq10.size (Nat.le_trans (Le.drew w34).size hl19.size)))))))) (t := ⟨o.t.se, o.t.rq, o.t.code, o.t.args, o.t.reads, o.t.writes⟩) (rep := o.rep) (RdX.more (Le.rdx ((Le.drew w34).trans hl19) hk136) htc.rd rfl (inc (Nat.le_refl _) hb3z (inc (Nat.le_trans hl1.size (Nat.le_trans (Le.drew w1).size (Nat.le_trans hl12.size (Nat.le_trans qlx6.size (Nat.le_trans hq10.size (Le.drew w34).size))))) hb30z (inc (Nat.le_trans hl1.size (Le.drew w1).size) hb19z inn)))) (RdX.more (Le.rdx ((Le.drew w34).trans hl19) hk137) hta.rd rfl (inc (Nat.le_refl _) hb3z (inc (Nat.le_trans hl1.size (Nat.le_trans (Le.drew w1).size (Nat.le_trans hl12.size (Nat.le_trans qlx6.size (Nat.le_trans hq10.size (Le.drew w34).size))))) hb30z (inc (Nat.le_trans hl1.size (Le.drew w1).size) hb19z inn)))) (RdX.more (Le.rdx ((Le.drew w34).trans hl19) hk138) htr.rd rfl (inc (Nat.le_refl _) hb3z (inc (Nat.le_trans hl1.size (Nat.le_trans (Le.drew w1).size (Nat.le_trans hl12.size (Nat.le_trans qlx6.size (Nat.le_trans hq10.size (Le.drew w34).size))))) hb30z (inc (Nat.le_trans hl1.size (Le.drew w1).size) hb19z inn)))) (RdX.more (Le.rdx ((Le.drew w34).trans hl19) hk139) htw.rd rfl (inc (Nat.le_refl _) hb3z (inc (Nat.le_trans hl1.size (Nat.le_trans (Le.drew w1).size (Nat.le_trans hl12.size (Nat.le_trans qlx6.size (Nat.le_trans hq10.size (Le.drew w34).size))))) hb30z (inc (Nat.le_trans hl1.size (Le.drew w1).size) hb19z inn)))) ho.t ho.b) ?_
     rintro _ w40 (⟨qne10, rfl, qle10⟩ | ⟨qeq10, qxr10, qxw10, rfl, qlx10, qcl10, qor10, qow10⟩)
     ·
      exact absurd qeq6 qne10
     ·
      have hk173 := qlx10.bk (ni_ne n2 ni_nil) (Le.bk ((Le.drew w34).trans hl19) hk123)
      have hk174 := qlx10.bk (ni_ne n3 ni_nil) (Le.bk ((Le.drew w34).trans hl19) hk124)
      have hk175 := Lx.rdx2 qlx10 hz26.rd rfl (dr_in (List.mem_append_right _ hmw) dr_nil) (Le.rdx ((Le.drew w34).trans hl19) hk125)
      have hk176 := Lx.rdx2 qlx10 hz27.rd rfl (dr_in (List.mem_append_right _ hmw) dr_nil) (Le.rdx ((Le.drew w34).trans hl19) hk126)
      have hk177 := Lx.rdx2 qlx10 hz28.rd rfl (dr_in (List.mem_append_right _ hmw) dr_nil) (Le.rdx ((Le.drew w34).trans hl19) hk127)
      have hk178 := Lx.rdx2 qlx10 hz29.rd rfl (dr_in (List.mem_append_right _ hmw) dr_nil) (Le.rdx ((Le.drew w34).trans hl19) hk128)
      have hk179 := Lx.rdx2 qlx10 hz30.rd rfl (dr_in (List.mem_append_right _ hmw) dr_nil) (Le.rdx ((Le.drew w34).trans hl19) hk129)
      have hk180 := Lx.rdx2 qlx10 hz6.rd rfl (dr_in hmw dr_nil) (Le.rdx ((Le.drew w34).trans hl19) hk131)
      have hk181 := Lx.rdx2 qlx10 hz7.rd rfl (dr_in hmw dr_nil) (Le.rdx ((Le.drew w34).trans hl19) hk132)
      have hk182 := Lx.rdx2 qlx10 hz8.rd rfl (dr_in hmw dr_nil) (Le.rdx ((Le.drew w34).trans hl19) hk133)
      have hk183 := Lx.rdx2 qlx10 hz9.rd rfl (dr_in hmw dr_nil) (Le.rdx ((Le.drew w34).trans hl19) hk134)
      have hk184 := Lx.rdx2 qlx10 hz10.rd rfl (dr_in hmw dr_nil) (Le.rdx ((Le.drew w34).trans hl19) hk135)
      have hk185 := Lx.rdx2 qlx10 htc.rd rfl (dr_in hmw dr_nil) (Le.rdx ((Le.drew w34).trans hl19) hk136)
      have hk186 := Lx.rdx2 qlx10 hta.rd rfl (dr_in hmw dr_nil) (Le.rdx ((Le.drew w34).trans hl19) hk137)
      have hk187 := Lx.rdx2 qlx10 htr.rd rfl (dr_in hmw dr_nil) (Le.rdx ((Le.drew w34).trans hl19) hk138)
      have hk188 := Lx.rdx2 qlx10 htw.rd rfl (dr_in hmw dr_nil) (Le.rdx ((Le.drew w34).trans hl19) hk139)
      have hk189 := Lx.rdx2 qlx10 hx.rd rfl (dr_in hmw dr_nil) (Le.rdx ((Le.drew w34).trans hl19) hk140)
      have hk190 := Lx.rdx2 qlx10 hk.rd rfl (dr_in hmw dr_nil) (Le.rdx ((Le.drew w34).trans hl19) hk141)
      have hk191 := Lx.rdx2 qlx10 hp.rd rfl (dr_in hmw dr_nil) (Le.rdx ((Le.drew w34).trans hl19) hk142)
      have hk192 := qlx10.bk (ni_new hb3z (Nat.lt_of_lt_of_le (bk_lt hb2) (Nat.le_refl _)) ni_nil) (Le.bk ((Le.drew w34).trans hl19) hk143)
      have hk193 := qlx10.bk (ni_new hb19z (Nat.lt_of_lt_of_le (bk_lt hb2) (Nat.le_trans hl1.size (Le.drew w1).size)) ni_nil) (Le.bk ((Le.drew w34).trans hl19) hb26)
      have hk194 := qlx10.ow (Off.cons (Ow.ne_new qoc2 (Nat.lt_of_lt_of_le (bk_lt hb2) (Nat.le_trans hl1.size (Nat.le_trans (Le.drew w1).size hl12.size)))) Off.nil) (hk144.le ((Le.drew w34).trans hl19))
      have hk195 := qlx10.ow (Off.cons (Ow.ne_new qoa2 (Nat.lt_of_lt_of_le (bk_lt hb2) (Nat.le_trans hl1.size (Nat.le_trans (Le.drew w1).size hl12.size)))) Off.nil) (hk145.le ((Le.drew w34).trans hl19))
      have hk196 := qlx10.ow (Off.cons (Ow.ne_new qor6 (Nat.lt_of_lt_of_le (bk_lt hb2) (Nat.le_trans hl1.size (Nat.le_trans (Le.drew w1).size hl12.size)))) Off.nil) (hk146.le ((Le.drew w34).trans hl19))
      have hk197 := qlx10.ow (Off.cons (Ow.ne_new qow6 (Nat.lt_of_lt_of_le (bk_lt hb2) (Nat.le_trans hl1.size (Nat.le_trans (Le.drew w1).size hl12.size)))) Off.nil) (hk147.le ((Le.drew w34).trans hl19))
      have hk198 := qlx10.bk (ni_new hb30z (Nat.lt_of_lt_of_le (bk_lt hb2) (Nat.le_trans hl1.size (Nat.le_trans (Le.drew w1).size (Nat.le_trans hl12.size (Nat.le_trans qlx6.size (Nat.le_trans hq10.size (Le.drew w34).size)))))) ni_nil) hb30
      obtain ⟨z36, z37, z38, z39, z40, hb31, hz36, hz37, hz38, hz39, hz40⟩ := qcl10
      have lx29 : Lx [bw] w34 w40 := (qlx10.drop (Lx.trans (Lx.trans (Lx.refl _ _) (Le.drew w34).lx) hl19.lx) (dr_in (by simp) dr_nil))
      refine ⟨lx29, ?_⟩
      refine LP rfl rfl rfl (xmv rfl) ?_
      refine LP rfl rfl rfl (xext rfl rfl) ?_
      refine LP rfl rfl rfl (xext rfl rfl) ?_
      refine LUt rfl rfl (xsb sz36 hk198 rfl rfl (agg_cells _) rfl rfl (al_cons rfl (al_cons rfl (al_cons rfl (al_cons hk185.rd.sh.one (al_cons hk186.rd.sh.one (al_cons qor10.rd.sh.one (al_cons qow10.rd.sh.one (al_cons rfl (al_cons rfl (al_cons rfl al_nil))))))))))) ?_
      rintro w41 ⟨hq12, hb32⟩
      dsimp only [put] at hb32
      have hk199 := hq12.bk (ni_old (Nat.lt_of_lt_of_le (bk_lt hpP) (Nat.le_trans hl1.size (Nat.le_trans (Le.drew w1).size (Nat.le_trans hl12.size (Nat.le_trans qlx6.size (Nat.le_trans hq10.size (Le.drew w34).size)))))) hb30z ni_nil) hk173
      have hk200 := hq12.bk (ni_old (Nat.lt_of_lt_of_le (bk_lt hb1) (Nat.le_trans hl1.size (Nat.le_trans (Le.drew w1).size (Nat.le_trans hl12.size (Nat.le_trans qlx6.size (Nat.le_trans hq10.size (Le.drew w34).size)))))) hb30z ni_nil) hk174
      have hk201 := Lx.rdx2 hq12 hz26.rd rfl (dr_new (Nat.le_trans hq10.size (Le.drew w34).size) hb30z dr_nil) hk175
      have hk202 := Lx.rdx2 hq12 hz27.rd rfl (dr_new (Nat.le_trans hq10.size (Le.drew w34).size) hb30z dr_nil) hk176
      have hk203 := Lx.rdx2 hq12 hz28.rd rfl (dr_new (Nat.le_trans hq10.size (Le.drew w34).size) hb30z dr_nil) hk177
      have hk204 := Lx.rdx2 hq12 hz29.rd rfl (dr_new (Nat.le_trans hq10.size (Le.drew w34).size) hb30z dr_nil) hk178
      have hk205 := Lx.rdx2 hq12 hz30.rd rfl (dr_new (Nat.le_trans hq10.size (Le.drew w34).size) hb30z dr_nil) hk179
      have hk206 := hq12.bk (ni_old (Nat.lt_of_lt_of_le (bk_lt hb2) (Nat.le_trans hl1.size (Nat.le_trans (Le.drew w1).size (Nat.le_trans hl12.size (Nat.le_trans qlx6.size (Nat.le_trans hq10.size (Le.drew w34).size)))))) hb30z ni_nil) hb31
      have hk207 := Lx.rdx2 hq12 hz36.rd rfl (dr_in (by simp) dr_nil) hz36
      have hk208 := Lx.rdx2 hq12 hz37.rd rfl (dr_in (by simp) dr_nil) hz37
      have hk209 := Lx.rdx2 hq12 hz38.rd rfl (dr_in (by simp) dr_nil) hz38
      have hk210 := Lx.rdx2 hq12 hz39.rd rfl (dr_in (by simp) dr_nil) hz39
      have hk211 := Lx.rdx2 hq12 hz40.rd rfl (dr_in (by simp) dr_nil) hz40
      have hk212 := Lx.rdx2 hq12 htc.rd rfl (dr_new (Nat.le_trans hl1.size (Nat.le_trans (Le.drew w1).size (Nat.le_trans hl12.size (Nat.le_trans qlx6.size (Nat.le_trans hq10.size (Le.drew w34).size))))) hb30z dr_nil) hk185
      have hk213 := Lx.rdx2 hq12 hta.rd rfl (dr_new (Nat.le_trans hl1.size (Nat.le_trans (Le.drew w1).size (Nat.le_trans hl12.size (Nat.le_trans qlx6.size (Nat.le_trans hq10.size (Le.drew w34).size))))) hb30z dr_nil) hk186
      have hk214 := Lx.rdx2 hq12 htr.rd rfl (dr_new (Nat.le_trans hl1.size (Nat.le_trans (Le.drew w1).size (Nat.le_trans hl12.size (Nat.le_trans qlx6.size (Nat.le_trans hq10.size (Le.drew w34).size))))) hb30z dr_nil) hk187
      have hk215 := Lx.rdx2 hq12 htw.rd rfl (dr_new (Nat.le_trans hl1.size (Nat.le_trans (Le.drew w1).size (Nat.le_trans hl12.size (Nat.le_trans qlx6.size (Nat.le_trans hq10.size (Le.drew w34).size))))) hb30z dr_nil) hk188
      have hk216 := Lx.rdx2 hq12 hx.rd rfl (dr_new (Nat.le_trans hl1.size (Nat.le_trans (Le.drew w1).size (Nat.le_trans hl12.size (Nat.le_trans qlx6.size (Nat.le_trans hq10.size (Le.drew w34).size))))) hb30z dr_nil) hk189
      have hk217 := Lx.rdx2 hq12 hk.rd rfl (dr_new (Nat.le_trans hl1.size (Nat.le_trans (Le.drew w1).size (Nat.le_trans hl12.size (Nat.le_trans qlx6.size (Nat.le_trans hq10.size (Le.drew w34).size))))) hb30z dr_nil) hk190
      have hk218 := Lx.rdx2 hq12 hp.rd rfl (dr_new (Nat.le_trans hl1.size (Nat.le_trans (Le.drew w1).size (Nat.le_trans hl12.size (Nat.le_trans qlx6.size (Nat.le_trans hq10.size (Le.drew w34).size))))) hb30z dr_nil) hk191
      have hk219 := hq12.bk (ni_old (Nat.lt_of_lt_of_le (bk_lt hb3) (Nat.le_trans (Le.drew w1).size (Nat.le_trans hl12.size (Nat.le_trans qlx6.size (Nat.le_trans hq10.size (Le.drew w34).size))))) hb30z ni_nil) hk192
      have hk220 := hq12.bk (ni_old (Nat.lt_of_lt_of_le (bk_lt hb19) (Nat.le_trans qlx6.size (Nat.le_trans hq10.size (Le.drew w34).size))) hb30z ni_nil) hk193
      have hk221 := hq12.ow (Off.cons (Ow.ne_old qoc2 hb30z (Nat.le_trans hq10.size (Le.drew w34).size)) Off.nil) hk194
      have hk222 := hq12.ow (Off.cons (Ow.ne_old qoa2 hb30z (Nat.le_trans hq10.size (Le.drew w34).size)) Off.nil) hk195
      have hk223 := hq12.ow (Off.cons (Ow.ne_old qor6 hb30z (Nat.le_trans hq10.size (Le.drew w34).size)) Off.nil) hk196
      have hk224 := hq12.ow (Off.cons (Ow.ne_old qow6 hb30z (Nat.le_trans hq10.size (Le.drew w34).size)) Off.nil) hk197
      have hk225 := Lx.rdx2 hq12 htc.rd rfl (dr_new (Nat.le_trans hl1.size (Nat.le_trans (Le.drew w1).size (Nat.le_trans hl12.size (Nat.le_trans qlx6.size (Nat.le_trans hq10.size (Le.drew w34).size))))) hb30z dr_nil) hk185
      have hk226 := Lx.rdx2 hq12 hta.rd rfl (dr_new (Nat.le_trans hl1.size (Nat.le_trans (Le.drew w1).size (Nat.le_trans hl12.size (Nat.le_trans qlx6.size (Nat.le_trans hq10.size (Le.drew w34).size))))) hb30z dr_nil) hk186
      have hk227 := Lx.rdx2 hq12 qor10.rd rfl (dr_in (by simp) dr_nil) qor10
      have hk228 := Lx.rdx2 hq12 qow10.rd rfl (dr_in (by simp) dr_nil) qow10
      refine LP rfl rfl rfl (xas rfl) ?_
      refine LZ ?_
      refine F_seq ?_
      refine W_seq ?_
      refine W_reg (.pure 0 (.pure 1 (.pure 2 (.pure 3 (.one 4 (.one 5 (.one 6 (.pure 7 (.pure 8 .nil))))))))) rfl ?_
      refine LP rfl rfl rfl (xmv rfl) ?_
      refine LP rfl rfl rfl (xmv rfl) ?_
      refine LP rfl rfl rfl (xeql rfl rfl) ?_
      refine L_is 52 (v := .bool true) rfl (by simp) ?_
      refine LP rfl rfl rfl (xmv rfl) ?_
      refine LX rfl rfl rfl (xlb10 ag36 hk220 rfl rfl rfl rfl rfl rfl rfl rfl rfl rfl rfl) trivial ?_
      refine LX rfl rfl rfl (xlb10 ag36 hb32 rfl rfl rfl rfl rfl rfl rfl rfl rfl rfl rfl) trivial ?_
      refine LF rfl rfl rfl has69 rfl (askSame (rep := o.rep) (least := 0) (q := false) (l := []) (t := ⟨(normT c ⟨o.t.se, o.t.rq, o.t.code, o.t.args, o.t.reads, o.t.writes⟩).se, (normT c ⟨o.t.se, o.t.rq, o.t.code, o.t.args, o.t.reads, o.t.writes⟩).rq, (normT c ⟨o.t.se, o.t.rq, o.t.code, o.t.args, o.t.reads, o.t.writes⟩).code, (normT c ⟨o.t.se, o.t.rq, o.t.code, o.t.args, o.t.reads, o.t.writes⟩).args, (normT c ⟨o.t.se, o.t.rq, o.t.code, o.t.args, o.t.reads, o.t.writes⟩).reads, (normT c ⟨o.t.se, o.t.rq, o.t.code, o.t.args, o.t.reads, o.t.writes⟩).writes⟩) hk221.rd hk222.rd hk223.rd hk224.rd hk225.rd hk226.rd hk227.rd hk228.rd (RdE.nil _ _) (RdE.nil _ _)) ?_
      rintro _ w42 ⟨rfl, hl20⟩
      refine ⟨trivial, ?_⟩
      refine LP rfl rfl rfl (xpk1 rfl rfl) ?_
      refine LP rfl rfl rfl (xas rfl) ?_
      refine LZ ?_
      refine F_seq ?_
      refine W_ret ?_
      refine F_ret_block ?_
      refine F_ret_then ?_
      have lx30 : Lx [bc, bw] w w24 := (qlx6.drop (Lx.trans (Lx.trans (Lx.trans (Lx.refl _ _) hl1.lx) (Le.drew w1).lx) hl12.lx) (dr_in (by simp) dr_nil))
      have lx31 : Lx [bc, bw] w w34 := (hq10.drop lx30 (dr_new (Nat.le_trans hl1.size (Le.drew w1).size) hb19z dr_nil))
      have lx32 : Lx [bc, bw] w w40 := (qlx10.drop (Lx.trans (Lx.trans lx31 (Le.drew w34).lx) hl19.lx) (dr_in (by simp) dr_nil))
      have lx33 : Lx [bc, bw] w w41 := (hq12.drop lx32 (dr_new (Nat.le_trans hl1.size (Nat.le_trans (Le.drew w1).size (Nat.le_trans hl12.size (Nat.le_trans qlx6.size (Nat.le_trans hq10.size (Le.drew w34).size))))) hb30z dr_nil))
      exact F_end1 rfl rfl ⟨_, rfl, S, _, _, rfl, (Lx.trans lx33 hl20.lx).mono (ms_cons hmc (ms_cons hmw ms_nil)), ⟨(Le.bk hl20 hk199), (⟨_, _, _, _, _, (Le.bk hl20 hk200), ((Le.rdx hl20 hk201).less fun i hi => List.mem_append_right _ hi), ((Le.rdx hl20 hk202).less fun i hi => List.mem_append_right _ hi), ((Le.rdx hl20 hk203).less fun i hi => List.mem_append_right _ hi), ((Le.rdx hl20 hk204).less fun i hi => List.mem_append_right _ hi), ((Le.rdx hl20 hk205).less fun i hi => List.mem_append_right _ hi)⟩ : Cl S w42 116 bc (submitC c ⟨o.t.se, o.t.rq, o.t.code, o.t.args, o.t.reads, o.t.writes⟩ o.rep)), (⟨_, _, _, _, _, (Le.bk hl20 hk206), ((Le.rdx hl20 hk207).less fun i hi => List.mem_append_right _ hi), ((Le.rdx hl20 hk208).less fun i hi => List.mem_append_right _ hi), ((Le.rdx hl20 hk209).less fun i hi => List.mem_append_right _ hi), ((Le.rdx hl20 hk210).less fun i hi => List.mem_append_right _ hi), ((Le.rdx hl20 hk211).less fun i hi => List.mem_append_right _ hi)⟩ : Cl S w42 118 bw (submitC c ⟨o.t.se, o.t.rq, o.t.code, o.t.args, o.t.reads, o.t.writes⟩ o.rep)), hmp, hmc, hmw, (submitC_ok hok ho.t qeq6), hlz, (lt_le hS (Nat.le_trans hl1.size (Nat.le_trans (Le.drew w1).size (Nat.le_trans hl12.size (Nat.le_trans qlx6.size (Nat.le_trans hq10.size (Nat.le_trans (Le.drew w34).size (Nat.le_trans hl19.size (Nat.le_trans qlx10.size (Nat.le_trans hq12.size hl20.size))))))))))⟩, fun i hi => .inl hi⟩
 · -- c1 no
  replace c1 := of_decide_eq_false c1
  refine W_seq ?_
  refine W_reg (.pure 0 (.pure 1 .nil)) rfl ?_
  refine LP rfl rfl rfl (xeql rfl rfl) ?_
  refine LP rfl rfl rfl (xas rfl) ?_
  refine LZ ?_
  refine F_seq ?_
  refine W_cond rfl (fun c2 => ?_) (fun c2 => ?_)
  · -- c2 yes
   replace c2 := of_decide_eq_true c2
   refine W_seq ?_
   refine W_reg (.pure 0 (.pure 1 (.pure 2 (.one 3 (.one 4 (.pure 5 (.pure 6 (.pure 7 (.one 8 (.one 9 (.pure 10 .nil))))))))))) rfl ?_
   refine LP rfl rfl rfl (xmv rfl) ?_
   refine LP rfl rfl rfl (xnc rfl) ?_
   refine LP rfl rfl rfl (xfa fa48_0 rfl) ?_
   refine LX rfl rfl rfl (xld sc27 rfl (cl_bk (Le.bk hl1 hpP) rfl)) trivial ?_
   refine LF rfl rfl rfl has57 rfl (c_tick (S := ([b1] ++ S)) (⟨_, _, _, _, _, (Le.bk hl1 hb1), (RdX.more (Le.rdx hl1 hz1) hz1.rd rfl (inc (Nat.le_refl _) hb3z inn)), (RdX.more (Le.rdx hl1 hz2) hz2.rd rfl (inc (Nat.le_refl _) hb3z inn)), (RdX.more (Le.rdx hl1 hz3) hz3.rd rfl (inc (Nat.le_refl _) hb3z inn)), (RdX.more (Le.rdx hl1 hz4) hz4.rd rfl (inc (Nat.le_refl _) hb3z inn)), (RdX.more (Le.rdx hl1 hz5) hz5.rd rfl (inc (Nat.le_refl _) hb3z inn))⟩ : Cl ([b1] ++ S) w1 116 bc c) hok (List.mem_append_right _ hmc) (lt_app (lt_cons (Nat.lt_of_lt_of_le (bk_lt hb3) (Nat.le_refl _)) lt_nil) (lt_le hS hl1.size)) ) ?_
   rintro _ w43 (⟨qf1, rfl, qlx11, qcl11⟩ | ⟨qf2, qxc3, qxa3, qxr11, qxw11, rfl, qlx12, qcl12, qoc3, qoa3, qor11, qow11⟩)
   ·
    have hk229 := qlx11.bk (ni_ne n1 ni_nil) (Le.bk hl1 hpP)
    have hk230 := Lx.rdx2 qlx11 hz1.rd rfl (dr_in hmc dr_nil) (Le.rdx hl1 hz1)
    have hk231 := Lx.rdx2 qlx11 hz2.rd rfl (dr_in hmc dr_nil) (Le.rdx hl1 hz2)
    have hk232 := Lx.rdx2 qlx11 hz3.rd rfl (dr_in hmc dr_nil) (Le.rdx hl1 hz3)
    have hk233 := Lx.rdx2 qlx11 hz4.rd rfl (dr_in hmc dr_nil) (Le.rdx hl1 hz4)
    have hk234 := Lx.rdx2 qlx11 hz5.rd rfl (dr_in hmc dr_nil) (Le.rdx hl1 hz5)
    have hk235 := qlx11.bk (ni_ne (Ne.symm n3) ni_nil) (Le.bk hl1 hb2)
    have hk236 := Lx.rdx2 qlx11 hz6.rd rfl (dr_in hmc dr_nil) (Le.rdx hl1 hz6)
    have hk237 := Lx.rdx2 qlx11 hz7.rd rfl (dr_in hmc dr_nil) (Le.rdx hl1 hz7)
    have hk238 := Lx.rdx2 qlx11 hz8.rd rfl (dr_in hmc dr_nil) (Le.rdx hl1 hz8)
    have hk239 := Lx.rdx2 qlx11 hz9.rd rfl (dr_in hmc dr_nil) (Le.rdx hl1 hz9)
    have hk240 := Lx.rdx2 qlx11 hz10.rd rfl (dr_in hmc dr_nil) (Le.rdx hl1 hz10)
    have hk241 := Lx.rdx2 qlx11 htc.rd rfl (dr_in hmc dr_nil) (Le.rdx hl1 htc)
    have hk242 := Lx.rdx2 qlx11 hta.rd rfl (dr_in hmc dr_nil) (Le.rdx hl1 hta)
    have hk243 := Lx.rdx2 qlx11 htr.rd rfl (dr_in hmc dr_nil) (Le.rdx hl1 htr)
    have hk244 := Lx.rdx2 qlx11 htw.rd rfl (dr_in hmc dr_nil) (Le.rdx hl1 htw)
    have hk245 := Lx.rdx2 qlx11 hx.rd rfl (dr_in hmc dr_nil) (Le.rdx hl1 hx)
    have hk246 := Lx.rdx2 qlx11 hk.rd rfl (dr_in hmc dr_nil) (Le.rdx hl1 hk)
    have hk247 := Lx.rdx2 qlx11 hp.rd rfl (dr_in hmc dr_nil) (Le.rdx hl1 hp)
    have hk248 := qlx11.bk (ni_new hb3z (Nat.lt_of_lt_of_le (bk_lt hb1) (Nat.le_refl _)) ni_nil) hb3
    obtain ⟨z41, z42, z43, z44, z45, hb33, hz41, hz42, hz43, hz44, hz45⟩ := qcl11
    refine ⟨trivial, ?_⟩
    refine LP rfl rfl rfl (xmv rfl) ?_
    refine LP rfl rfl rfl (xext rfl rfl) ?_
    refine LP rfl rfl rfl (xext rfl rfl) ?_
    refine LT rfl rfl rfl (xal zr36) ?_
    rintro _ w44 ⟨b13, rfl, hl21, hb34, hb34z⟩
    refine ⟨trivial, ?_⟩
    refine LU rfl rfl (xsb sz36 hb34 rfl rfl (agg_cells _) rfl rfl (al_cons rfl (al_cons rfl (al_cons rfl (al_cons rfl (al_cons rfl (al_cons rfl (al_cons rfl (al_cons rfl (al_cons rfl (al_cons rfl al_nil))))))))))) ?_
    rintro w45 ⟨hq13, hb35⟩
    dsimp only [put] at hb35
    refine ⟨trivial, ?_⟩
    refine LP rfl rfl rfl (xas rfl) ?_
    refine LZ ?_
    refine F_seq ?_
    refine W_seq ?_
    refine W_reg (.pure 0 (.pure 1 (.pure 2 (.one 3 (.one 4 (.pure 5 (.pure 6 (.pure 7 (.one 8 (.one 9 (.pure 10 .nil))))))))))) rfl ?_
    refine LP rfl rfl rfl (xmv rfl) ?_
    refine LP rfl rfl rfl (xnc rfl) ?_
    refine LP rfl rfl rfl (xfa fa48_1 rfl) ?_
    have le16 : Le w43 w45 := (hq13.le hl21 (inc (Nat.le_refl _) hb34z inn))
    refine LX rfl rfl rfl (xld sc31 rfl (cl_bk (Le.bk le16 hk229) rfl)) trivial ?_
    refine LF rfl rfl rfl has70 rfl (r_tick (S := ([b1, b13] ++ S)) (⟨_, _, _, _, _, (Le.bk le16 hk235), (RdX.more (Le.rdx le16 hk236) hz6.rd rfl (inc (Nat.le_refl _) hb3z (inc (Nat.le_trans hl1.size qlx11.size) hb34z inn))), (RdX.more (Le.rdx le16 hk237) hz7.rd rfl (inc (Nat.le_refl _) hb3z (inc (Nat.le_trans hl1.size qlx11.size) hb34z inn))), (RdX.more (Le.rdx le16 hk238) hz8.rd rfl (inc (Nat.le_refl _) hb3z (inc (Nat.le_trans hl1.size qlx11.size) hb34z inn))), (RdX.more (Le.rdx le16 hk239) hz9.rd rfl (inc (Nat.le_refl _) hb3z (inc (Nat.le_trans hl1.size qlx11.size) hb34z inn))), (RdX.more (Le.rdx le16 hk240) hz10.rd rfl (inc (Nat.le_refl _) hb3z (inc (Nat.le_trans hl1.size qlx11.size) hb34z inn)))⟩ : Cl ([b1, b13] ++ S) w45 118 bw c) hok (List.mem_append_right _ hmw) (lt_app (lt_cons (Nat.lt_of_lt_of_le (bk_lt hb3) (Nat.le_trans qlx11.size (Nat.le_trans hl21.size hq13.size))) (lt_cons (Nat.lt_of_lt_of_le (bk_lt hb34) hq13.size) lt_nil)) (lt_le hS (Nat.le_trans hl1.size (Nat.le_trans qlx11.size (Nat.le_trans hl21.size hq13.size))))) ) ?_
    rintro _ w46 (⟨qf3, rfl, qlx13, qcl13⟩ | ⟨qf4, qxc4, qxa4, qxr12, qxw12, rfl, qlx14, qcl14, qoc4, qoa4, qor12, qow12⟩)
    ·
     have hk249 := qlx13.bk (ni_ne n2 ni_nil) (Le.bk le16 hk229)
     have hk250 := qlx13.bk (ni_ne n3 ni_nil) (Le.bk le16 hb33)
     have hk251 := Lx.rdx2 qlx13 hz41.rd rfl (dr_in (List.mem_append_right _ hmw) dr_nil) (Le.rdx le16 hz41)
     have hk252 := Lx.rdx2 qlx13 hz42.rd rfl (dr_in (List.mem_append_right _ hmw) dr_nil) (Le.rdx le16 hz42)
     have hk253 := Lx.rdx2 qlx13 hz43.rd rfl (dr_in (List.mem_append_right _ hmw) dr_nil) (Le.rdx le16 hz43)
     have hk254 := Lx.rdx2 qlx13 hz44.rd rfl (dr_in (List.mem_append_right _ hmw) dr_nil) (Le.rdx le16 hz44)
     have hk255 := Lx.rdx2 qlx13 hz45.rd rfl (dr_in (List.mem_append_right _ hmw) dr_nil) (Le.rdx le16 hz45)
     have hk256 := Lx.rdx2 qlx13 hz6.rd rfl (dr_in hmw dr_nil) (Le.rdx le16 hk236)
     have hk257 := Lx.rdx2 qlx13 hz7.rd rfl (dr_in hmw dr_nil) (Le.rdx le16 hk237)
     have hk258 := Lx.rdx2 qlx13 hz8.rd rfl (dr_in hmw dr_nil) (Le.rdx le16 hk238)
     have hk259 := Lx.rdx2 qlx13 hz9.rd rfl (dr_in hmw dr_nil) (Le.rdx le16 hk239)
     have hk260 := Lx.rdx2 qlx13 hz10.rd rfl (dr_in hmw dr_nil) (Le.rdx le16 hk240)
     have hk261 := Lx.rdx2 qlx13 htc.rd rfl (dr_in hmw dr_nil) (Le.rdx le16 hk241)
     have hk262 := Lx.rdx2 qlx13 hta.rd rfl (dr_in hmw dr_nil) (Le.rdx le16 hk242)
     have hk263 := Lx.rdx2 qlx13 htr.rd rfl (dr_in hmw dr_nil) (Le.rdx le16 hk243)
     have hk264 := Lx.rdx2 qlx13 htw.rd rfl (dr_in hmw dr_nil) (Le.rdx le16 hk244)
     have hk265 := Lx.rdx2 qlx13 hx.rd rfl (dr_in hmw dr_nil) (Le.rdx le16 hk245)
     have hk266 := Lx.rdx2 qlx13 hk.rd rfl (dr_in hmw dr_nil) (Le.rdx le16 hk246)
     have hk267 := Lx.rdx2 qlx13 hp.rd rfl (dr_in hmw dr_nil) (Le.rdx le16 hk247)
     have hk268 := qlx13.bk (ni_new hb3z (Nat.lt_of_lt_of_le (bk_lt hb2) (Nat.le_refl _)) ni_nil) (Le.bk le16 hk248)
     have hk269 := qlx13.bk (ni_new hb34z (Nat.lt_of_lt_of_le (bk_lt hb2) (Nat.le_trans hl1.size qlx11.size)) ni_nil) hb35
     obtain ⟨z46, z47, z48, z49, z50, hb36, hz46, hz47, hz48, hz49, hz50⟩ := qcl13
     refine ⟨trivial, ?_⟩
     refine LP rfl rfl rfl (xmv rfl) ?_
     refine LP rfl rfl rfl (xext rfl rfl) ?_
     refine LP rfl rfl rfl (xext rfl rfl) ?_
     refine LT rfl rfl rfl (xal zr36) ?_
     rintro _ w47 ⟨b14, rfl, hl22, hb37, hb37z⟩
     refine ⟨trivial, ?_⟩
     refine LU rfl rfl (xsb sz36 hb37 rfl rfl (agg_cells _) rfl rfl (al_cons rfl (al_cons rfl (al_cons rfl (al_cons rfl (al_cons rfl (al_cons rfl (al_cons rfl (al_cons rfl (al_cons rfl (al_cons rfl al_nil))))))))))) ?_
     rintro w48 ⟨hq14, hb38⟩
     dsimp only [put] at hb38
     refine ⟨trivial, ?_⟩
     refine LP rfl rfl rfl (xas rfl) ?_
     refine LZ ?_
     refine F_seq ?_
     refine W_seq ?_
     refine W_reg (.pure 0 (.pure 1 (.pure 2 (.pure 3 (.one 4 (.one 5 (.one 6 (.pure 7 (.pure 8 .nil))))))))) rfl ?_
     refine LP rfl rfl rfl (xmv rfl) ?_
     refine LP rfl rfl rfl (xmv rfl) ?_
     refine LP rfl rfl rfl (xbeq un4 rfl rfl) ?_
     refine L_is 78 (v := .bool true) rfl (by simp) ?_
     refine LP rfl rfl rfl (xmv rfl) ?_
     have le17 : Le w46 w48 := (hq14.le hl22 (inc (Nat.le_refl _) hb37z inn))
     refine LX rfl rfl rfl (xlb10 ag36 (Le.bk le17 hk269) rfl rfl rfl rfl rfl rfl rfl rfl rfl rfl rfl) trivial ?_
     refine LX rfl rfl rfl (xlb10 ag36 hb38 rfl rfl rfl rfl rfl rfl rfl rfl rfl rfl rfl) trivial ?_
     refine LF rfl rfl rfl has69 rfl (askSame (rep := 0) (least := 0) (q := false) (l := []) (t := ⟨0, 0, [], [], [], []⟩) (RdE.nil _ _) (RdE.nil _ _) (RdE.nil _ _) (RdE.nil _ _) (RdE.nil _ _) (RdE.nil _ _) (RdE.nil _ _) (RdE.nil _ _) (RdE.nil _ _) (RdE.nil _ _)) ?_
     rintro _ w49 ⟨rfl, hl23⟩
     refine ⟨trivial, ?_⟩
     refine LP rfl rfl rfl (xpk1 rfl rfl) ?_
     refine LP rfl rfl rfl (xas rfl) ?_
     refine LZ ?_
     refine F_seq ?_
     refine W_ret ?_
     refine F_ret_block ?_
     refine F_ret_then ?_
     have lx34 : Lx [bc, bw] w w43 := (qlx11.drop (Lx.trans (Lx.refl _ _) hl1.lx) (dr_in (by simp) dr_nil))
     have lx35 : Lx [bc, bw] w w45 := (hq13.drop (Lx.trans lx34 hl21.lx) (dr_new (Nat.le_trans hl1.size qlx11.size) hb34z dr_nil))
     have lx36 : Lx [bc, bw] w w46 := (qlx13.drop lx35 (dr_in (by simp) dr_nil))
     have lx37 : Lx [bc, bw] w w48 := (hq14.drop (Lx.trans lx36 hl22.lx) (dr_new (Nat.le_trans hl1.size (Nat.le_trans qlx11.size (Nat.le_trans hl21.size (Nat.le_trans hq13.size qlx13.size)))) hb37z dr_nil))
     exact F_end1 rfl rfl ⟨_, rfl, S, _, _, rfl, (Lx.trans lx37 hl23.lx).mono (ms_cons hmc (ms_cons hmw ms_nil)), ⟨(Le.bk (le17.trans hl23) hk249), (⟨_, _, _, _, _, (Le.bk (le17.trans hl23) hk250), ((Le.rdx (le17.trans hl23) hk251).less fun i hi => List.mem_append_right _ hi), ((Le.rdx (le17.trans hl23) hk252).less fun i hi => List.mem_append_right _ hi), ((Le.rdx (le17.trans hl23) hk253).less fun i hi => List.mem_append_right _ hi), ((Le.rdx (le17.trans hl23) hk254).less fun i hi => List.mem_append_right _ hi), ((Le.rdx (le17.trans hl23) hk255).less fun i hi => List.mem_append_right _ hi)⟩ : Cl S w49 116 bc (tickC c)), (⟨_, _, _, _, _, (Le.bk (le17.trans hl23) hb36), ((Le.rdx (le17.trans hl23) hz46).less fun i hi => List.mem_append_right _ hi), ((Le.rdx (le17.trans hl23) hz47).less fun i hi => List.mem_append_right _ hi), ((Le.rdx (le17.trans hl23) hz48).less fun i hi => List.mem_append_right _ hi), ((Le.rdx (le17.trans hl23) hz49).less fun i hi => List.mem_append_right _ hi), ((Le.rdx (le17.trans hl23) hz50).less fun i hi => List.mem_append_right _ hi)⟩ : Cl S w49 118 bw (tickC c)), hmp, hmc, hmw, (tickC_ok hok), (tickC_lz hlz), (lt_le hS (Nat.le_trans hl1.size (Nat.le_trans qlx11.size (Nat.le_trans hl21.size (Nat.le_trans hq13.size (Nat.le_trans qlx13.size (Nat.le_trans hl22.size (Nat.le_trans hq14.size hl23.size))))))))⟩, fun i hi => .inl hi⟩
    ·
     exact absurd (qf1.symm.trans qf4) (by decide)
   ·
    have hk270 := qlx12.bk (ni_ne n1 ni_nil) (Le.bk hl1 hpP)
    have hk271 := Lx.rdx2 qlx12 hz1.rd rfl (dr_in hmc dr_nil) (Le.rdx hl1 hz1)
    have hk272 := Lx.rdx2 qlx12 hz2.rd rfl (dr_in hmc dr_nil) (Le.rdx hl1 hz2)
    have hk273 := Lx.rdx2 qlx12 hz3.rd rfl (dr_in hmc dr_nil) (Le.rdx hl1 hz3)
    have hk274 := Lx.rdx2 qlx12 hz4.rd rfl (dr_in hmc dr_nil) (Le.rdx hl1 hz4)
    have hk275 := Lx.rdx2 qlx12 hz5.rd rfl (dr_in hmc dr_nil) (Le.rdx hl1 hz5)
    have hk276 := qlx12.bk (ni_ne (Ne.symm n3) ni_nil) (Le.bk hl1 hb2)
    have hk277 := Lx.rdx2 qlx12 hz6.rd rfl (dr_in hmc dr_nil) (Le.rdx hl1 hz6)
    have hk278 := Lx.rdx2 qlx12 hz7.rd rfl (dr_in hmc dr_nil) (Le.rdx hl1 hz7)
    have hk279 := Lx.rdx2 qlx12 hz8.rd rfl (dr_in hmc dr_nil) (Le.rdx hl1 hz8)
    have hk280 := Lx.rdx2 qlx12 hz9.rd rfl (dr_in hmc dr_nil) (Le.rdx hl1 hz9)
    have hk281 := Lx.rdx2 qlx12 hz10.rd rfl (dr_in hmc dr_nil) (Le.rdx hl1 hz10)
    have hk282 := Lx.rdx2 qlx12 htc.rd rfl (dr_in hmc dr_nil) (Le.rdx hl1 htc)
    have hk283 := Lx.rdx2 qlx12 hta.rd rfl (dr_in hmc dr_nil) (Le.rdx hl1 hta)
    have hk284 := Lx.rdx2 qlx12 htr.rd rfl (dr_in hmc dr_nil) (Le.rdx hl1 htr)
    have hk285 := Lx.rdx2 qlx12 htw.rd rfl (dr_in hmc dr_nil) (Le.rdx hl1 htw)
    have hk286 := Lx.rdx2 qlx12 hx.rd rfl (dr_in hmc dr_nil) (Le.rdx hl1 hx)
    have hk287 := Lx.rdx2 qlx12 hk.rd rfl (dr_in hmc dr_nil) (Le.rdx hl1 hk)
    have hk288 := Lx.rdx2 qlx12 hp.rd rfl (dr_in hmc dr_nil) (Le.rdx hl1 hp)
    have hk289 := qlx12.bk (ni_new hb3z (Nat.lt_of_lt_of_le (bk_lt hb1) (Nat.le_refl _)) ni_nil) hb3
    obtain ⟨z51, z52, z53, z54, z55, hb39, hz51, hz52, hz53, hz54, hz55⟩ := qcl12
    refine ⟨trivial, ?_⟩
    refine LP rfl rfl rfl (xmv rfl) ?_
    refine LP rfl rfl rfl (xext rfl rfl) ?_
    refine LP rfl rfl rfl (xext rfl rfl) ?_
    refine LT rfl rfl rfl (xal zr36) ?_
    rintro _ w50 ⟨b15, rfl, hl24, hb40, hb40z⟩
    refine ⟨trivial, ?_⟩
    refine LU rfl rfl (xsb sz36 hb40 rfl rfl (agg_cells _) rfl rfl (al_cons rfl (al_cons rfl (al_cons rfl (al_cons qoc3.rd.sh.one (al_cons qoa3.rd.sh.one (al_cons qor11.rd.sh.one (al_cons qow11.rd.sh.one (al_cons rfl (al_cons rfl (al_cons rfl al_nil))))))))))) ?_
    rintro w51 ⟨hq15, hb41⟩
    dsimp only [put] at hb41
    refine ⟨trivial, ?_⟩
    refine LP rfl rfl rfl (xas rfl) ?_
    refine LZ ?_
    refine F_seq ?_
    refine W_seq ?_
    refine W_reg (.pure 0 (.pure 1 (.pure 2 (.one 3 (.one 4 (.pure 5 (.pure 6 (.pure 7 (.one 8 (.one 9 (.pure 10 .nil))))))))))) rfl ?_
    refine LP rfl rfl rfl (xmv rfl) ?_
    refine LP rfl rfl rfl (xnc rfl) ?_
    refine LP rfl rfl rfl (xfa fa48_1 rfl) ?_
    have le18 : Le w43 w51 := (hq15.le hl24 (inc (Nat.le_refl _) hb40z inn))
    refine LX rfl rfl rfl (xld sc31 rfl (cl_bk (Le.bk le18 hk270) rfl)) trivial ?_
    refine LF rfl rfl rfl has70 rfl (r_tick (S := ([b1, b15] ++ S)) (⟨_, _, _, _, _, (Le.bk le18 hk276), (RdX.more (Le.rdx le18 hk277) hz6.rd rfl (inc (Nat.le_refl _) hb3z (inc (Nat.le_trans hl1.size qlx12.size) hb40z inn))), (RdX.more (Le.rdx le18 hk278) hz7.rd rfl (inc (Nat.le_refl _) hb3z (inc (Nat.le_trans hl1.size qlx12.size) hb40z inn))), (RdX.more (Le.rdx le18 hk279) hz8.rd rfl (inc (Nat.le_refl _) hb3z (inc (Nat.le_trans hl1.size qlx12.size) hb40z inn))), (RdX.more (Le.rdx le18 hk280) hz9.rd rfl (inc (Nat.le_refl _) hb3z (inc (Nat.le_trans hl1.size qlx12.size) hb40z inn))), (RdX.more (Le.rdx le18 hk281) hz10.rd rfl (inc (Nat.le_refl _) hb3z (inc (Nat.le_trans hl1.size qlx12.size) hb40z inn)))⟩ : Cl ([b1, b15] ++ S) w51 118 bw c) hok (List.mem_append_right _ hmw) (lt_app (lt_cons (Nat.lt_of_lt_of_le (bk_lt hb3) (Nat.le_trans qlx12.size (Nat.le_trans hl24.size hq15.size))) (lt_cons (Nat.lt_of_lt_of_le (bk_lt hb40) hq15.size) lt_nil)) (lt_le hS (Nat.le_trans hl1.size (Nat.le_trans qlx12.size (Nat.le_trans hl24.size hq15.size))))) ) ?_
    rintro _ w52 (⟨qf5, rfl, qlx15, qcl15⟩ | ⟨qf6, qxc5, qxa5, qxr13, qxw13, rfl, qlx16, qcl16, qoc5, qoa5, qor13, qow13⟩)
    ·
     exact absurd (qf5.symm.trans qf2) (by decide)
    ·
     have hk290 := qlx16.bk (ni_ne n2 ni_nil) (Le.bk le18 hk270)
     have hk291 := qlx16.bk (ni_ne n3 ni_nil) (Le.bk le18 hb39)
     have hk292 := Lx.rdx2 qlx16 hz51.rd rfl (dr_in (List.mem_append_right _ hmw) dr_nil) (Le.rdx le18 hz51)
     have hk293 := Lx.rdx2 qlx16 hz52.rd rfl (dr_in (List.mem_append_right _ hmw) dr_nil) (Le.rdx le18 hz52)
     have hk294 := Lx.rdx2 qlx16 hz53.rd rfl (dr_in (List.mem_append_right _ hmw) dr_nil) (Le.rdx le18 hz53)
     have hk295 := Lx.rdx2 qlx16 hz54.rd rfl (dr_in (List.mem_append_right _ hmw) dr_nil) (Le.rdx le18 hz54)
     have hk296 := Lx.rdx2 qlx16 hz55.rd rfl (dr_in (List.mem_append_right _ hmw) dr_nil) (Le.rdx le18 hz55)
     have hk297 := Lx.rdx2 qlx16 hz6.rd rfl (dr_in hmw dr_nil) (Le.rdx le18 hk277)
     have hk298 := Lx.rdx2 qlx16 hz7.rd rfl (dr_in hmw dr_nil) (Le.rdx le18 hk278)
     have hk299 := Lx.rdx2 qlx16 hz8.rd rfl (dr_in hmw dr_nil) (Le.rdx le18 hk279)
     have hk300 := Lx.rdx2 qlx16 hz9.rd rfl (dr_in hmw dr_nil) (Le.rdx le18 hk280)
     have hk301 := Lx.rdx2 qlx16 hz10.rd rfl (dr_in hmw dr_nil) (Le.rdx le18 hk281)
     have hk302 := Lx.rdx2 qlx16 htc.rd rfl (dr_in hmw dr_nil) (Le.rdx le18 hk282)
     have hk303 := Lx.rdx2 qlx16 hta.rd rfl (dr_in hmw dr_nil) (Le.rdx le18 hk283)
     have hk304 := Lx.rdx2 qlx16 htr.rd rfl (dr_in hmw dr_nil) (Le.rdx le18 hk284)
     have hk305 := Lx.rdx2 qlx16 htw.rd rfl (dr_in hmw dr_nil) (Le.rdx le18 hk285)
     have hk306 := Lx.rdx2 qlx16 hx.rd rfl (dr_in hmw dr_nil) (Le.rdx le18 hk286)
     have hk307 := Lx.rdx2 qlx16 hk.rd rfl (dr_in hmw dr_nil) (Le.rdx le18 hk287)
     have hk308 := Lx.rdx2 qlx16 hp.rd rfl (dr_in hmw dr_nil) (Le.rdx le18 hk288)
     have hk309 := qlx16.bk (ni_new hb3z (Nat.lt_of_lt_of_le (bk_lt hb2) (Nat.le_refl _)) ni_nil) (Le.bk le18 hk289)
     have hk310 := Lx.rdx2 qlx16 qoc3.rd rfl (dr_in (List.mem_append_right _ hmw) dr_nil) (Le.rdx le18 qoc3)
     have hk311 := Lx.rdx2 qlx16 qoa3.rd rfl (dr_in (List.mem_append_right _ hmw) dr_nil) (Le.rdx le18 qoa3)
     have hk312 := Lx.rdx2 qlx16 qor11.rd rfl (dr_in (List.mem_append_right _ hmw) dr_nil) (Le.rdx le18 qor11)
     have hk313 := Lx.rdx2 qlx16 qow11.rd rfl (dr_in (List.mem_append_right _ hmw) dr_nil) (Le.rdx le18 qow11)
     have hk314 := qlx16.bk (ni_new hb40z (Nat.lt_of_lt_of_le (bk_lt hb2) (Nat.le_trans hl1.size qlx12.size)) ni_nil) hb41
     obtain ⟨z56, z57, z58, z59, z60, hb42, hz56, hz57, hz58, hz59, hz60⟩ := qcl16
     refine ⟨trivial, ?_⟩
     refine LP rfl rfl rfl (xmv rfl) ?_
     refine LP rfl rfl rfl (xext rfl rfl) ?_
     refine LP rfl rfl rfl (xext rfl rfl) ?_
     refine LT rfl rfl rfl (xal zr36) ?_
     rintro _ w53 ⟨b16, rfl, hl25, hb43, hb43z⟩
     refine ⟨trivial, ?_⟩
     refine LU rfl rfl (xsb sz36 hb43 rfl rfl (agg_cells _) rfl rfl (al_cons rfl (al_cons rfl (al_cons rfl (al_cons qoc5.rd.sh.one (al_cons qoa5.rd.sh.one (al_cons qor13.rd.sh.one (al_cons qow13.rd.sh.one (al_cons rfl (al_cons rfl (al_cons rfl al_nil))))))))))) ?_
     rintro w54 ⟨hq16, hb44⟩
     dsimp only [put] at hb44
     refine ⟨trivial, ?_⟩
     refine LP rfl rfl rfl (xas rfl) ?_
     refine LZ ?_
     refine F_seq ?_
     refine W_seq ?_
     refine W_reg (.pure 0 (.pure 1 (.pure 2 (.pure 3 (.one 4 (.one 5 (.one 6 (.pure 7 (.pure 8 .nil))))))))) rfl ?_
     refine LP rfl rfl rfl (xmv rfl) ?_
     refine LP rfl rfl rfl (xmv rfl) ?_
     refine LP rfl rfl rfl (xbeq un4 rfl rfl) ?_
     refine L_is 78 (v := .bool true) rfl (by simp) ?_
     refine LP rfl rfl rfl (xmv rfl) ?_
     have le19 : Le w52 w54 := (hq16.le hl25 (inc (Nat.le_refl _) hb43z inn))
     refine LX rfl rfl rfl (xlb10 ag36 (Le.bk le19 hk314) rfl rfl rfl rfl rfl rfl rfl rfl rfl rfl rfl) trivial ?_
     refine LX rfl rfl rfl (xlb10 ag36 hb44 rfl rfl rfl rfl rfl rfl rfl rfl rfl rfl rfl) trivial ?_
     refine LF rfl rfl rfl has69 rfl (askSame (rep := (tickC c).turn) (least := 0) (q := false) (l := []) (t := ⟨c.t.se, c.t.rq, c.t.code, c.t.args, c.t.reads, c.t.writes⟩) (RdE.le le19 hk310.rd) (RdE.le le19 hk311.rd) (RdE.le le19 hk312.rd) (RdE.le le19 hk313.rd) (RdE.le le19 qoc5.rd) (RdE.le le19 qoa5.rd) (RdE.le le19 qor13.rd) (RdE.le le19 qow13.rd) (RdE.nil _ _) (RdE.nil _ _)) ?_
     rintro _ w55 ⟨rfl, hl26⟩
     refine ⟨trivial, ?_⟩
     refine LP rfl rfl rfl (xpk1 rfl rfl) ?_
     refine LP rfl rfl rfl (xas rfl) ?_
     refine LZ ?_
     refine F_seq ?_
     refine W_ret ?_
     refine F_ret_block ?_
     refine F_ret_then ?_
     have lx38 : Lx [bc, bw] w w43 := (qlx12.drop (Lx.trans (Lx.refl _ _) hl1.lx) (dr_in (by simp) dr_nil))
     have lx39 : Lx [bc, bw] w w51 := (hq15.drop (Lx.trans lx38 hl24.lx) (dr_new (Nat.le_trans hl1.size qlx12.size) hb40z dr_nil))
     have lx40 : Lx [bc, bw] w w52 := (qlx16.drop lx39 (dr_in (by simp) dr_nil))
     have lx41 : Lx [bc, bw] w w54 := (hq16.drop (Lx.trans lx40 hl25.lx) (dr_new (Nat.le_trans hl1.size (Nat.le_trans qlx12.size (Nat.le_trans hl24.size (Nat.le_trans hq15.size qlx16.size)))) hb43z dr_nil))
     exact F_end1 rfl rfl ⟨_, rfl, S, _, _, rfl, (Lx.trans lx41 hl26.lx).mono (ms_cons hmc (ms_cons hmw ms_nil)), ⟨(Le.bk (le19.trans hl26) hk290), (⟨_, _, _, _, _, (Le.bk (le19.trans hl26) hk291), ((Le.rdx (le19.trans hl26) hk292).less fun i hi => List.mem_append_right _ hi), ((Le.rdx (le19.trans hl26) hk293).less fun i hi => List.mem_append_right _ hi), ((Le.rdx (le19.trans hl26) hk294).less fun i hi => List.mem_append_right _ hi), ((Le.rdx (le19.trans hl26) hk295).less fun i hi => List.mem_append_right _ hi), ((Le.rdx (le19.trans hl26) hk296).less fun i hi => List.mem_append_right _ hi)⟩ : Cl S w55 116 bc (tickC c)), (⟨_, _, _, _, _, (Le.bk (le19.trans hl26) hb42), ((Le.rdx (le19.trans hl26) hz56).less fun i hi => List.mem_append_right _ hi), ((Le.rdx (le19.trans hl26) hz57).less fun i hi => List.mem_append_right _ hi), ((Le.rdx (le19.trans hl26) hz58).less fun i hi => List.mem_append_right _ hi), ((Le.rdx (le19.trans hl26) hz59).less fun i hi => List.mem_append_right _ hi), ((Le.rdx (le19.trans hl26) hz60).less fun i hi => List.mem_append_right _ hi)⟩ : Cl S w55 118 bw (tickC c)), hmp, hmc, hmw, (tickC_ok hok), (tickC_lz hlz), (lt_le hS (Nat.le_trans hl1.size (Nat.le_trans qlx12.size (Nat.le_trans hl24.size (Nat.le_trans hq15.size (Nat.le_trans qlx16.size (Nat.le_trans hl25.size (Nat.le_trans hq16.size hl26.size))))))))⟩, fun i hi => .inl hi⟩
  · -- c2 no
   replace c2 := of_decide_eq_false c2
   refine W_seq ?_
   refine W_reg (.pure 0 (.pure 1 .nil)) rfl ?_
   refine LP rfl rfl rfl (xeql rfl rfl) ?_
   refine LP rfl rfl rfl (xas rfl) ?_
   refine LZ ?_
   refine F_seq ?_
   refine W_cond rfl (fun c3 => ?_) (fun c3 => ?_)
   · -- c3 yes
    replace c3 := of_decide_eq_true c3
    refine W_seq ?_
    refine W_seq ?_
    refine W_reg (.pure 0 (.one 1 .nil)) rfl ?_
    refine LP rfl rfl rfl (xfa fa57_4 rfl) ?_
    refine LX rfl rfl rfl (xld sc4 rfl (cl_bk hb3 rfl)) trivial ?_
    refine LZ ?_
    refine F_seq ?_
    refine W_cond rfl (fun c4 => ?_) (fun c4 => ?_)
    · -- c4 yes
     refine W_draw (.pure 0 (.pure 1 (.pure 2 (.still 3 (.pure 4 (.pure 5 (.still 6 (.pure 7 (.pure 8 (.pure 9 (.still 10 (.pure 11 (.pure 12 (.still 13 (.pure 14 (.pure 15 (.one 16 (.pure 17 (.pure 18 (.tail 19 .nil)))))))))))))))))))) (Lx [b1] w1) hfol (by kernel_rfl) (pkt (pkb (pkt pkB))) (Le.drew _).lx ?_
     refine LP rfl rfl rfl (xmv rfl) ?_
     refine LP rfl rfl rfl (xnc rfl) ?_
     refine LP rfl rfl rfl (xfa fa48_1 rfl) ?_
     refine LS rfl rfl rfl (fun w' hw' => (xld sc31 rfl (cl_bk (hw'.bk (ni_old (Nat.lt_of_lt_of_le (bk_lt hpP) (Nat.le_refl _)) hb3z ni_nil) (Le.bk hl1 hpP)) rfl))) ?_
     refine LP rfl rfl rfl (xnc rfl) ?_
     refine LP rfl rfl rfl (xfa fa118_0 rfl) ?_
     refine LS rfl rfl rfl (fun w' hw' => (xld sc2 rfl (cl_bk (hw'.bk (ni_old (Nat.lt_of_lt_of_le (bk_lt hb2) (Nat.le_refl _)) hb3z ni_nil) (Le.bk hl1 hb2)) rfl))) ?_
     refine LP rfl rfl rfl (xmv rfl) ?_
     refine LP rfl rfl rfl (xnc rfl) ?_
     refine LP rfl rfl rfl (xfa fa48_1 rfl) ?_
     refine LS rfl rfl rfl (fun w' hw' => (xld sc31 rfl (cl_bk (hw'.bk (ni_old (Nat.lt_of_lt_of_le (bk_lt hpP) (Nat.le_refl _)) hb3z ni_nil) (Le.bk hl1 hpP)) rfl))) ?_
     refine LP rfl rfl rfl (xnc rfl) ?_
     refine LP rfl rfl rfl (xfa fa118_2 rfl) ?_
     refine LS rfl rfl rfl (fun w' hw' => (xld sc2 rfl (cl_bk (hw'.bk (ni_old (Nat.lt_of_lt_of_le (bk_lt hb2) (Nat.le_refl _)) hb3z ni_nil) (Le.bk hl1 hb2)) rfl))) ?_
     refine LP rfl rfl rfl (xfa fa57_3 rfl) ?_
     refine LP rfl rfl rfl (xfa fa52_0 rfl) ?_
     refine LU rfl rfl (xsb sz2 (Le.bk (Le.drew w1) hb3) rfl rfl (int_cells _ _) rfl rfl (al_cons rfl al_nil)) ?_
     rintro w56 ⟨hq17, hb45⟩
     dsimp only [put] at hb45
     have lx42 : Lx [b1] w1 w56 := (hq17.drop (Lx.trans (Lx.refl _ _) (Le.drew w1).lx) (dr_in (by simp) dr_nil))
     refine ⟨lx42, ?_⟩
     refine LP rfl rfl rfl (xfa fa57_3 rfl) ?_
     refine LP rfl rfl rfl (xfa fa52_1 rfl) ?_
     refine LUt rfl rfl (xsb sz2 hb45 rfl rfl (int_cells _ _) rfl rfl (al_cons rfl al_nil)) ?_
     rintro w57 ⟨hq18, hb46⟩
     dsimp only [put] at hb46
     refine LZ ?_
     refine F_seq ?_
     refine W_seq ?_
     refine W_draw (.pure 0 (.pure 1 (.pure 2 (.still 3 (.pure 4 (.still 5 (.one 6 (.pure 7 (.pure 8 (.pure 9 (.pure 10 (.pure 11 .nil)))))))))))) (Lx [bc] w57) hfol (by kernel_rfl) (pkt (pkb (pkt pkB))) (Le.drew _).lx ?_
     refine LP rfl rfl rfl (xmv rfl) ?_
     refine LP rfl rfl rfl (xnc rfl) ?_
     refine LP rfl rfl rfl (xfa fa48_0 rfl) ?_
     have le20 : Le w w56 := (hq17.le (hl1.trans (Le.drew w1)) (inc (Nat.le_refl _) hb3z inn))
     have le21 : Le w w57 := (hq18.le le20 (inc (Nat.le_refl _) hb3z inn))
     refine LS rfl rfl rfl (fun w' hw' => (xld sc27 rfl (cl_bk (hw'.bk (ni_ne n1 ni_nil) (Le.bk le21 hpP)) rfl))) ?_
     refine LP rfl rfl rfl (xfa fa57_3 rfl) ?_
     refine LS rfl rfl rfl (fun w' hw' => (xlb6 ag52 (hw'.bk (ni_new hb3z (Nat.lt_of_lt_of_le (bk_lt hb1) (Nat.le_refl _)) ni_nil) hb46) rfl rfl rfl rfl rfl rfl rfl)) ?_
     refine LF rfl rfl rfl has58 rfl (c_answer (S := ([b1] ++ S)) (⟨_, _, _, _, _, (Le.bk (le21.trans (Le.drew w57)) hb1), (RdX.more (Le.rdx (le21.trans (Le.drew w57)) hz1) hz1.rd rfl (inc (Nat.le_refl _) hb3z inn)), (RdX.more (Le.rdx (le21.trans (Le.drew w57)) hz2) hz2.rd rfl (inc (Nat.le_refl _) hb3z inn)), (RdX.more (Le.rdx (le21.trans (Le.drew w57)) hz3) hz3.rd rfl (inc (Nat.le_refl _) hb3z inn)), (RdX.more (Le.rdx (le21.trans (Le.drew w57)) hz4) hz4.rd rfl (inc (Nat.le_refl _) hb3z inn)), (RdX.more (Le.rdx (le21.trans (Le.drew w57)) hz5) hz5.rd rfl (inc (Nat.le_refl _) hb3z inn))⟩ : Cl ([b1] ++ S) w57.drew 116 bc c) hok (List.mem_append_right _ hmc) (lt_app (lt_cons (Nat.lt_of_lt_of_le (bk_lt hb3) (Nat.le_trans (Le.drew w1).size (Nat.le_trans hq17.size (Nat.le_trans hq18.size (Le.drew w57).size)))) lt_nil) (lt_le hS (Nat.le_trans hl1.size (Nat.le_trans (Le.drew w1).size (Nat.le_trans hq17.size (Nat.le_trans hq18.size (Le.drew w57).size)))))) (a := ⟨c.se, c.rq, ⟨o.a.r.e, o.a.r.vals, o.a.r.slot, o.a.r.place⟩⟩) (RdX.more (Le.rdx (le21.trans (Le.drew w57)) hx) hx.rd rfl (inc (Nat.le_refl _) hb3z inn)) ho.a) ?_
     rintro _ w58 (⟨qf7, rfl, qle11⟩ | ⟨qf8, rfl, qlx17, qcl17⟩)
     ·
      refine ⟨(Lx.trans (Lx.trans (Lx.refl _ _) (Le.drew w57).lx) qle11.lx), ?_⟩
      refine LP rfl rfl rfl (xmv rfl) ?_
      refine LP rfl rfl rfl (xext rfl rfl) ?_
      refine LP rfl rfl rfl (xext rfl rfl) ?_
      refine LP rfl rfl rfl (xas rfl) ?_
      refine LP rfl rfl rfl (xas rfl) ?_
      refine LZ ?_
      refine F_seq ?_
      refine W_seq ?_
      refine W_draw (.pure 0 (.pure 1 (.pure 2 (.still 3 (.pure 4 (.still 5 (.one 6 (.pure 7 (.pure 8 (.pure 9 (.pure 10 (.pure 11 .nil)))))))))))) (Lx [bw] w58) hfol (by kernel_rfl) (pkt (pkb (pkt pkB))) (Le.drew _).lx ?_
      refine LP rfl rfl rfl (xmv rfl) ?_
      refine LP rfl rfl rfl (xnc rfl) ?_
      refine LP rfl rfl rfl (xfa fa48_1 rfl) ?_
      refine LS rfl rfl rfl (fun w' hw' => (xld sc31 rfl (cl_bk (hw'.bk (ni_ne n2 ni_nil) (Le.bk (le21.trans ((Le.drew w57).trans qle11)) hpP)) rfl))) ?_
      refine LP rfl rfl rfl (xfa fa57_3 rfl) ?_
      refine LS rfl rfl rfl (fun w' hw' => (xlb6 ag52 (hw'.bk (ni_new hb3z (Nat.lt_of_lt_of_le (bk_lt hb2) (Nat.le_refl _)) ni_nil) (Le.bk ((Le.drew w57).trans qle11) hb46)) rfl rfl rfl rfl rfl rfl rfl)) ?_
      refine LF rfl rfl rfl has71 rfl (r_answer (S := ([b1] ++ S)) (⟨_, _, _, _, _, (Le.bk (le21.trans ((Le.drew w57).trans (qle11.trans (Le.drew w58)))) hb2), (RdX.more (Le.rdx (le21.trans ((Le.drew w57).trans (qle11.trans (Le.drew w58)))) hz6) hz6.rd rfl (inc (Nat.le_refl _) hb3z inn)), (RdX.more (Le.rdx (le21.trans ((Le.drew w57).trans (qle11.trans (Le.drew w58)))) hz7) hz7.rd rfl (inc (Nat.le_refl _) hb3z inn)), (RdX.more (Le.rdx (le21.trans ((Le.drew w57).trans (qle11.trans (Le.drew w58)))) hz8) hz8.rd rfl (inc (Nat.le_refl _) hb3z inn)), (RdX.more (Le.rdx (le21.trans ((Le.drew w57).trans (qle11.trans (Le.drew w58)))) hz9) hz9.rd rfl (inc (Nat.le_refl _) hb3z inn)), (RdX.more (Le.rdx (le21.trans ((Le.drew w57).trans (qle11.trans (Le.drew w58)))) hz10) hz10.rd rfl (inc (Nat.le_refl _) hb3z inn))⟩ : Cl ([b1] ++ S) w58.drew 118 bw c) hok (List.mem_append_right _ hmw) (lt_app (lt_cons (Nat.lt_of_lt_of_le (bk_lt hb3) (Nat.le_trans (Le.drew w1).size (Nat.le_trans hq17.size (Nat.le_trans hq18.size (Nat.le_trans (Le.drew w57).size (Nat.le_trans qle11.size (Le.drew w58).size)))))) lt_nil) (lt_le hS (Nat.le_trans hl1.size (Nat.le_trans (Le.drew w1).size (Nat.le_trans hq17.size (Nat.le_trans hq18.size (Nat.le_trans (Le.drew w57).size (Nat.le_trans qle11.size (Le.drew w58).size)))))))) (a := ⟨c.se, c.rq, ⟨o.a.r.e, o.a.r.vals, o.a.r.slot, o.a.r.place⟩⟩) (RdX.more (Le.rdx (le21.trans ((Le.drew w57).trans (qle11.trans (Le.drew w58)))) hx) hx.rd rfl (inc (Nat.le_refl _) hb3z inn)) ho.a) ?_
      rintro _ w59 (⟨qf9, rfl, qle12⟩ | ⟨qf10, rfl, qlx18, qcl18⟩)
      ·
       refine ⟨(Lx.trans (Lx.trans (Lx.refl _ _) (Le.drew w58).lx) qle12.lx), ?_⟩
       refine LP rfl rfl rfl (xmv rfl) ?_
       refine LP rfl rfl rfl (xext rfl rfl) ?_
       refine LP rfl rfl rfl (xext rfl rfl) ?_
       refine LP rfl rfl rfl (xas rfl) ?_
       refine LP rfl rfl rfl (xas rfl) ?_
       refine LZ ?_
       refine F_seq ?_
       refine W_seq ?_
       refine W_reg (.pure 0 (.pure 1 (.pure 2 (.pure 3 (.pure 4 (.pure 5 (.pure 6 (.pure 7 (.pure 8 .nil))))))))) rfl ?_
       refine LP rfl rfl rfl (xmv rfl) ?_
       refine LP rfl rfl rfl (xmv rfl) ?_
       refine LP rfl rfl rfl (xbeq un4 rfl rfl) ?_
       refine L_is 128 (v := .bool true) rfl (by simp) ?_
       refine LP rfl rfl rfl (xmv rfl) ?_
       refine LP rfl rfl rfl (xmv rfl) ?_
       refine LP rfl rfl rfl (xmv rfl) ?_
       refine LP rfl rfl rfl (xeql rfl rfl) ?_
       refine L_is 132 (v := .bool true) rfl (by simp) ?_
       refine LP rfl rfl rfl (xpk1 rfl rfl) ?_
       refine LP rfl rfl rfl (xas rfl) ?_
       refine LZ ?_
       refine F_seq ?_
       refine W_ret ?_
       refine F_ret_block ?_
       refine F_ret_then ?_
       have lx43 : Lx [bc, bw] w w56 := (hq17.drop (Lx.trans (Lx.trans (Lx.refl _ _) hl1.lx) (Le.drew w1).lx) (dr_new (Nat.le_refl _) hb3z dr_nil))
       have lx44 : Lx [bc, bw] w w57 := (hq18.drop lx43 (dr_new (Nat.le_refl _) hb3z dr_nil))
       exact F_end1 rfl rfl ⟨_, rfl, S, _, _, rfl, (Lx.trans (Lx.trans (Lx.trans (Lx.trans lx44 (Le.drew w57).lx) qle11.lx) (Le.drew w58).lx) qle12.lx).mono (ms_cons hmc (ms_cons hmw ms_nil)), ⟨(Le.bk (le21.trans ((Le.drew w57).trans (qle11.trans ((Le.drew w58).trans qle12)))) hpP), (⟨_, _, _, _, _, (Le.bk (le21.trans ((Le.drew w57).trans (qle11.trans ((Le.drew w58).trans qle12)))) hb1), (Le.rdx (le21.trans ((Le.drew w57).trans (qle11.trans ((Le.drew w58).trans qle12)))) hz1), (Le.rdx (le21.trans ((Le.drew w57).trans (qle11.trans ((Le.drew w58).trans qle12)))) hz2), (Le.rdx (le21.trans ((Le.drew w57).trans (qle11.trans ((Le.drew w58).trans qle12)))) hz3), (Le.rdx (le21.trans ((Le.drew w57).trans (qle11.trans ((Le.drew w58).trans qle12)))) hz4), (Le.rdx (le21.trans ((Le.drew w57).trans (qle11.trans ((Le.drew w58).trans qle12)))) hz5)⟩ : Cl S w59 116 bc c), (⟨_, _, _, _, _, (Le.bk (le21.trans ((Le.drew w57).trans (qle11.trans ((Le.drew w58).trans qle12)))) hb2), (Le.rdx (le21.trans ((Le.drew w57).trans (qle11.trans ((Le.drew w58).trans qle12)))) hz6), (Le.rdx (le21.trans ((Le.drew w57).trans (qle11.trans ((Le.drew w58).trans qle12)))) hz7), (Le.rdx (le21.trans ((Le.drew w57).trans (qle11.trans ((Le.drew w58).trans qle12)))) hz8), (Le.rdx (le21.trans ((Le.drew w57).trans (qle11.trans ((Le.drew w58).trans qle12)))) hz9), (Le.rdx (le21.trans ((Le.drew w57).trans (qle11.trans ((Le.drew w58).trans qle12)))) hz10)⟩ : Cl S w59 118 bw c), hmp, hmc, hmw, hok, hlz, (lt_le hS (Nat.le_trans hl1.size (Nat.le_trans (Le.drew w1).size (Nat.le_trans hq17.size (Nat.le_trans hq18.size (Nat.le_trans (Le.drew w57).size (Nat.le_trans qle11.size (Nat.le_trans (Le.drew w58).size qle12.size))))))))⟩, fun i hi => .inl hi⟩
      ·
       exact absurd (qf7.symm.trans qf10) (by decide)
     ·
      have hk315 := qlx17.bk (ni_ne n1 ni_nil) (Le.bk (le21.trans (Le.drew w57)) hpP)
      have hk316 := Lx.rdx2 qlx17 hz1.rd rfl (dr_in hmc dr_nil) (Le.rdx (le21.trans (Le.drew w57)) hz1)
      have hk317 := Lx.rdx2 qlx17 hz2.rd rfl (dr_in hmc dr_nil) (Le.rdx (le21.trans (Le.drew w57)) hz2)
      have hk318 := Lx.rdx2 qlx17 hz3.rd rfl (dr_in hmc dr_nil) (Le.rdx (le21.trans (Le.drew w57)) hz3)
      have hk319 := Lx.rdx2 qlx17 hz4.rd rfl (dr_in hmc dr_nil) (Le.rdx (le21.trans (Le.drew w57)) hz4)
      have hk320 := Lx.rdx2 qlx17 hz5.rd rfl (dr_in hmc dr_nil) (Le.rdx (le21.trans (Le.drew w57)) hz5)
      have hk321 := qlx17.bk (ni_ne (Ne.symm n3) ni_nil) (Le.bk (le21.trans (Le.drew w57)) hb2)
      have hk322 := Lx.rdx2 qlx17 hz6.rd rfl (dr_in hmc dr_nil) (Le.rdx (le21.trans (Le.drew w57)) hz6)
      have hk323 := Lx.rdx2 qlx17 hz7.rd rfl (dr_in hmc dr_nil) (Le.rdx (le21.trans (Le.drew w57)) hz7)
      have hk324 := Lx.rdx2 qlx17 hz8.rd rfl (dr_in hmc dr_nil) (Le.rdx (le21.trans (Le.drew w57)) hz8)
      have hk325 := Lx.rdx2 qlx17 hz9.rd rfl (dr_in hmc dr_nil) (Le.rdx (le21.trans (Le.drew w57)) hz9)
      have hk326 := Lx.rdx2 qlx17 hz10.rd rfl (dr_in hmc dr_nil) (Le.rdx (le21.trans (Le.drew w57)) hz10)
      have hk327 := Lx.rdx2 qlx17 htc.rd rfl (dr_in hmc dr_nil) (Le.rdx (le21.trans (Le.drew w57)) htc)
      have hk328 := Lx.rdx2 qlx17 hta.rd rfl (dr_in hmc dr_nil) (Le.rdx (le21.trans (Le.drew w57)) hta)
      have hk329 := Lx.rdx2 qlx17 htr.rd rfl (dr_in hmc dr_nil) (Le.rdx (le21.trans (Le.drew w57)) htr)
      have hk330 := Lx.rdx2 qlx17 htw.rd rfl (dr_in hmc dr_nil) (Le.rdx (le21.trans (Le.drew w57)) htw)
      have hk331 := Lx.rdx2 qlx17 hx.rd rfl (dr_in hmc dr_nil) (Le.rdx (le21.trans (Le.drew w57)) hx)
      have hk332 := Lx.rdx2 qlx17 hk.rd rfl (dr_in hmc dr_nil) (Le.rdx (le21.trans (Le.drew w57)) hk)
      have hk333 := Lx.rdx2 qlx17 hp.rd rfl (dr_in hmc dr_nil) (Le.rdx (le21.trans (Le.drew w57)) hp)
      have hk334 := qlx17.bk (ni_new hb3z (Nat.lt_of_lt_of_le (bk_lt hb1) (Nat.le_refl _)) ni_nil) (Le.bk (Le.drew w57) hb46)
      obtain ⟨z61, z62, z63, z64, z65, hb47, hz61, hz62, hz63, hz64, hz65⟩ := qcl17
      have lx45 : Lx [bc] w57 w58 := (qlx17.drop (Lx.trans (Lx.refl _ _) (Le.drew w57).lx) (dr_in (by simp) dr_nil))
      refine ⟨lx45, ?_⟩
      refine LP rfl rfl rfl (xmv rfl) ?_
      refine LP rfl rfl rfl (xext rfl rfl) ?_
      refine LP rfl rfl rfl (xext rfl rfl) ?_
      refine LP rfl rfl rfl (xas rfl) ?_
      refine LP rfl rfl rfl (xas rfl) ?_
      refine LZ ?_
      refine F_seq ?_
      refine W_seq ?_
      refine W_draw (.pure 0 (.pure 1 (.pure 2 (.still 3 (.pure 4 (.still 5 (.one 6 (.pure 7 (.pure 8 (.pure 9 (.pure 10 (.pure 11 .nil)))))))))))) (Lx [bw] w58) hfol (by kernel_rfl) (pkt (pkb (pkt pkB))) (Le.drew _).lx ?_
      refine LP rfl rfl rfl (xmv rfl) ?_
      refine LP rfl rfl rfl (xnc rfl) ?_
      refine LP rfl rfl rfl (xfa fa48_1 rfl) ?_
      refine LS rfl rfl rfl (fun w' hw' => (xld sc31 rfl (cl_bk (hw'.bk (ni_ne n2 ni_nil) hk315) rfl))) ?_
      refine LP rfl rfl rfl (xfa fa57_3 rfl) ?_
      refine LS rfl rfl rfl (fun w' hw' => (xlb6 ag52 (hw'.bk (ni_new hb3z (Nat.lt_of_lt_of_le (bk_lt hb2) (Nat.le_refl _)) ni_nil) hk334) rfl rfl rfl rfl rfl rfl rfl)) ?_
      refine LF rfl rfl rfl has71 rfl (r_answer (S := ([b1] ++ S)) (⟨_, _, _, _, _, (Le.bk (Le.drew w58) hk321), (RdX.more (Le.rdx (Le.drew w58) hk322) hz6.rd rfl (inc (Nat.le_refl _) hb3z inn)), (RdX.more (Le.rdx (Le.drew w58) hk323) hz7.rd rfl (inc (Nat.le_refl _) hb3z inn)), (RdX.more (Le.rdx (Le.drew w58) hk324) hz8.rd rfl (inc (Nat.le_refl _) hb3z inn)), (RdX.more (Le.rdx (Le.drew w58) hk325) hz9.rd rfl (inc (Nat.le_refl _) hb3z inn)), (RdX.more (Le.rdx (Le.drew w58) hk326) hz10.rd rfl (inc (Nat.le_refl _) hb3z inn))⟩ : Cl ([b1] ++ S) w58.drew 118 bw c) hok (List.mem_append_right _ hmw) (lt_app (lt_cons (Nat.lt_of_lt_of_le (bk_lt hb3) (Nat.le_trans (Le.drew w1).size (Nat.le_trans hq17.size (Nat.le_trans hq18.size (Nat.le_trans (Le.drew w57).size (Nat.le_trans qlx17.size (Le.drew w58).size)))))) lt_nil) (lt_le hS (Nat.le_trans hl1.size (Nat.le_trans (Le.drew w1).size (Nat.le_trans hq17.size (Nat.le_trans hq18.size (Nat.le_trans (Le.drew w57).size (Nat.le_trans qlx17.size (Le.drew w58).size)))))))) (a := ⟨c.se, c.rq, ⟨o.a.r.e, o.a.r.vals, o.a.r.slot, o.a.r.place⟩⟩) (RdX.more (Le.rdx (Le.drew w58) hk331) hx.rd rfl (inc (Nat.le_refl _) hb3z inn)) ho.a) ?_
      rintro _ w60 (⟨qf11, rfl, qle13⟩ | ⟨qf12, rfl, qlx19, qcl19⟩)
      ·
       exact absurd (qf11.symm.trans qf8) (by decide)
      ·
       have hk335 := qlx19.bk (ni_ne n2 ni_nil) (Le.bk (Le.drew w58) hk315)
       have hk336 := qlx19.bk (ni_ne n3 ni_nil) (Le.bk (Le.drew w58) hb47)
       have hk337 := Lx.rdx2 qlx19 hz61.rd rfl (dr_in (List.mem_append_right _ hmw) dr_nil) (Le.rdx (Le.drew w58) hz61)
       have hk338 := Lx.rdx2 qlx19 hz62.rd rfl (dr_in (List.mem_append_right _ hmw) dr_nil) (Le.rdx (Le.drew w58) hz62)
       have hk339 := Lx.rdx2 qlx19 hz63.rd rfl (dr_in (List.mem_append_right _ hmw) dr_nil) (Le.rdx (Le.drew w58) hz63)
       have hk340 := Lx.rdx2 qlx19 hz64.rd rfl (dr_in (List.mem_append_right _ hmw) dr_nil) (Le.rdx (Le.drew w58) hz64)
       have hk341 := Lx.rdx2 qlx19 hz65.rd rfl (dr_in (List.mem_append_right _ hmw) dr_nil) (Le.rdx (Le.drew w58) hz65)
       have hk342 := Lx.rdx2 qlx19 hz6.rd rfl (dr_in hmw dr_nil) (Le.rdx (Le.drew w58) hk322)
       have hk343 := Lx.rdx2 qlx19 hz7.rd rfl (dr_in hmw dr_nil) (Le.rdx (Le.drew w58) hk323)
       have hk344 := Lx.rdx2 qlx19 hz8.rd rfl (dr_in hmw dr_nil) (Le.rdx (Le.drew w58) hk324)
       have hk345 := Lx.rdx2 qlx19 hz9.rd rfl (dr_in hmw dr_nil) (Le.rdx (Le.drew w58) hk325)
       have hk346 := Lx.rdx2 qlx19 hz10.rd rfl (dr_in hmw dr_nil) (Le.rdx (Le.drew w58) hk326)
       have hk347 := Lx.rdx2 qlx19 htc.rd rfl (dr_in hmw dr_nil) (Le.rdx (Le.drew w58) hk327)
       have hk348 := Lx.rdx2 qlx19 hta.rd rfl (dr_in hmw dr_nil) (Le.rdx (Le.drew w58) hk328)
       have hk349 := Lx.rdx2 qlx19 htr.rd rfl (dr_in hmw dr_nil) (Le.rdx (Le.drew w58) hk329)
       have hk350 := Lx.rdx2 qlx19 htw.rd rfl (dr_in hmw dr_nil) (Le.rdx (Le.drew w58) hk330)
       have hk351 := Lx.rdx2 qlx19 hx.rd rfl (dr_in hmw dr_nil) (Le.rdx (Le.drew w58) hk331)
       have hk352 := Lx.rdx2 qlx19 hk.rd rfl (dr_in hmw dr_nil) (Le.rdx (Le.drew w58) hk332)
       have hk353 := Lx.rdx2 qlx19 hp.rd rfl (dr_in hmw dr_nil) (Le.rdx (Le.drew w58) hk333)
       have hk354 := qlx19.bk (ni_new hb3z (Nat.lt_of_lt_of_le (bk_lt hb2) (Nat.le_refl _)) ni_nil) (Le.bk (Le.drew w58) hk334)
       obtain ⟨z66, z67, z68, z69, z70, hb48, hz66, hz67, hz68, hz69, hz70⟩ := qcl19
       have lx46 : Lx [bw] w58 w60 := (qlx19.drop (Lx.trans (Lx.refl _ _) (Le.drew w58).lx) (dr_in (by simp) dr_nil))
       refine ⟨lx46, ?_⟩
       refine LP rfl rfl rfl (xmv rfl) ?_
       refine LP rfl rfl rfl (xext rfl rfl) ?_
       refine LP rfl rfl rfl (xext rfl rfl) ?_
       refine LP rfl rfl rfl (xas rfl) ?_
       refine LP rfl rfl rfl (xas rfl) ?_
       refine LZ ?_
       refine F_seq ?_
       refine W_seq ?_
       refine W_reg (.pure 0 (.pure 1 (.pure 2 (.pure 3 (.pure 4 (.pure 5 (.pure 6 (.pure 7 (.pure 8 .nil))))))))) rfl ?_
       refine LP rfl rfl rfl (xmv rfl) ?_
       refine LP rfl rfl rfl (xmv rfl) ?_
       refine LP rfl rfl rfl (xbeq un4 rfl rfl) ?_
       refine L_is 128 (v := .bool true) rfl (by simp) ?_
       refine LP rfl rfl rfl (xmv rfl) ?_
       refine LP rfl rfl rfl (xmv rfl) ?_
       refine LP rfl rfl rfl (xmv rfl) ?_
       refine LP rfl rfl rfl (xeql rfl rfl) ?_
       refine L_is 132 (v := .bool true) rfl (by simp) ?_
       refine LP rfl rfl rfl (xpk1 rfl rfl) ?_
       refine LP rfl rfl rfl (xas rfl) ?_
       refine LZ ?_
       refine F_seq ?_
       refine W_ret ?_
       refine F_ret_block ?_
       refine F_ret_then ?_
       have lx47 : Lx [bc, bw] w w56 := (hq17.drop (Lx.trans (Lx.trans (Lx.refl _ _) hl1.lx) (Le.drew w1).lx) (dr_new (Nat.le_refl _) hb3z dr_nil))
       have lx48 : Lx [bc, bw] w w57 := (hq18.drop lx47 (dr_new (Nat.le_refl _) hb3z dr_nil))
       have lx49 : Lx [bc, bw] w w58 := (qlx17.drop (Lx.trans lx48 (Le.drew w57).lx) (dr_in (by simp) dr_nil))
       have lx50 : Lx [bc, bw] w w60 := (qlx19.drop (Lx.trans lx49 (Le.drew w58).lx) (dr_in (by simp) dr_nil))
       exact F_end1 rfl rfl ⟨_, rfl, S, _, _, rfl, lx50.mono (ms_cons hmc (ms_cons hmw ms_nil)), ⟨hk335, (⟨_, _, _, _, _, hk336, (hk337.less fun i hi => List.mem_append_right _ hi), (hk338.less fun i hi => List.mem_append_right _ hi), (hk339.less fun i hi => List.mem_append_right _ hi), (hk340.less fun i hi => List.mem_append_right _ hi), (hk341.less fun i hi => List.mem_append_right _ hi)⟩ : Cl S w60 116 bc (ansC c ⟨c.se, c.rq, ⟨o.a.r.e, o.a.r.vals, o.a.r.slot, o.a.r.place⟩⟩)), (⟨_, _, _, _, _, hb48, (hz66.less fun i hi => List.mem_append_right _ hi), (hz67.less fun i hi => List.mem_append_right _ hi), (hz68.less fun i hi => List.mem_append_right _ hi), (hz69.less fun i hi => List.mem_append_right _ hi), (hz70.less fun i hi => List.mem_append_right _ hi)⟩ : Cl S w60 118 bw (ansC c ⟨c.se, c.rq, ⟨o.a.r.e, o.a.r.vals, o.a.r.slot, o.a.r.place⟩⟩)), hmp, hmc, hmw, (ansC_ok hok ho.a), (fun h => absurd h (by simp [ansC])), (lt_le hS (Nat.le_trans hl1.size (Nat.le_trans (Le.drew w1).size (Nat.le_trans hq17.size (Nat.le_trans hq18.size (Nat.le_trans (Le.drew w57).size (Nat.le_trans qlx17.size (Nat.le_trans (Le.drew w58).size qlx19.size))))))))⟩, fun i hi => .inl hi⟩
    · -- c4 no
     refine W_skip ?_
     refine F_seq ?_
     refine W_seq ?_
     refine W_draw (.pure 0 (.pure 1 (.pure 2 (.still 3 (.pure 4 (.still 5 (.one 6 (.pure 7 (.pure 8 (.pure 9 (.pure 10 (.pure 11 .nil)))))))))))) (Lx [bc] w1) hfol (by kernel_rfl) (pkt (pkb (pkt pkB))) (Le.drew _).lx ?_
     refine LP rfl rfl rfl (xmv rfl) ?_
     refine LP rfl rfl rfl (xnc rfl) ?_
     refine LP rfl rfl rfl (xfa fa48_0 rfl) ?_
     refine LS rfl rfl rfl (fun w' hw' => (xld sc27 rfl (cl_bk (hw'.bk (ni_ne n1 ni_nil) (Le.bk hl1 hpP)) rfl))) ?_
     refine LP rfl rfl rfl (xfa fa57_3 rfl) ?_
     refine LS rfl rfl rfl (fun w' hw' => (xlb6 ag52 (hw'.bk (ni_new hb3z (Nat.lt_of_lt_of_le (bk_lt hb1) (Nat.le_refl _)) ni_nil) hb3) rfl rfl rfl rfl rfl rfl rfl)) ?_
     refine LF rfl rfl rfl has58 rfl (c_answer (S := ([b1] ++ S)) (⟨_, _, _, _, _, (Le.bk (hl1.trans (Le.drew w1)) hb1), (RdX.more (Le.rdx (hl1.trans (Le.drew w1)) hz1) hz1.rd rfl (inc (Nat.le_refl _) hb3z inn)), (RdX.more (Le.rdx (hl1.trans (Le.drew w1)) hz2) hz2.rd rfl (inc (Nat.le_refl _) hb3z inn)), (RdX.more (Le.rdx (hl1.trans (Le.drew w1)) hz3) hz3.rd rfl (inc (Nat.le_refl _) hb3z inn)), (RdX.more (Le.rdx (hl1.trans (Le.drew w1)) hz4) hz4.rd rfl (inc (Nat.le_refl _) hb3z inn)), (RdX.more (Le.rdx (hl1.trans (Le.drew w1)) hz5) hz5.rd rfl (inc (Nat.le_refl _) hb3z inn))⟩ : Cl ([b1] ++ S) w1.drew 116 bc c) hok (List.mem_append_right _ hmc) (lt_app (lt_cons (Nat.lt_of_lt_of_le (bk_lt hb3) (Le.drew w1).size) lt_nil) (lt_le hS (Nat.le_trans hl1.size (Le.drew w1).size))) (a := ⟨o.a.se, o.a.rq, ⟨o.a.r.e, o.a.r.vals, o.a.r.slot, o.a.r.place⟩⟩) (RdX.more (Le.rdx (hl1.trans (Le.drew w1)) hx) hx.rd rfl (inc (Nat.le_refl _) hb3z inn)) ho.a) ?_
     rintro _ w61 (⟨qf13, rfl, qle14⟩ | ⟨qf14, rfl, qlx20, qcl20⟩)
     ·
      refine ⟨(Lx.trans (Lx.trans (Lx.refl _ _) (Le.drew w1).lx) qle14.lx), ?_⟩
      refine LP rfl rfl rfl (xmv rfl) ?_
      refine LP rfl rfl rfl (xext rfl rfl) ?_
      refine LP rfl rfl rfl (xext rfl rfl) ?_
      refine LP rfl rfl rfl (xas rfl) ?_
      refine LP rfl rfl rfl (xas rfl) ?_
      refine LZ ?_
      refine F_seq ?_
      refine W_seq ?_
      refine W_draw (.pure 0 (.pure 1 (.pure 2 (.still 3 (.pure 4 (.still 5 (.one 6 (.pure 7 (.pure 8 (.pure 9 (.pure 10 (.pure 11 .nil)))))))))))) (Lx [bw] w61) hfol (by kernel_rfl) (pkt (pkb (pkt pkB))) (Le.drew _).lx ?_
      refine LP rfl rfl rfl (xmv rfl) ?_
      refine LP rfl rfl rfl (xnc rfl) ?_
      refine LP rfl rfl rfl (xfa fa48_1 rfl) ?_
      refine LS rfl rfl rfl (fun w' hw' => (xld sc31 rfl (cl_bk (hw'.bk (ni_ne n2 ni_nil) (Le.bk (hl1.trans ((Le.drew w1).trans qle14)) hpP)) rfl))) ?_
      refine LP rfl rfl rfl (xfa fa57_3 rfl) ?_
      refine LS rfl rfl rfl (fun w' hw' => (xlb6 ag52 (hw'.bk (ni_new hb3z (Nat.lt_of_lt_of_le (bk_lt hb2) (Nat.le_refl _)) ni_nil) (Le.bk ((Le.drew w1).trans qle14) hb3)) rfl rfl rfl rfl rfl rfl rfl)) ?_
      refine LF rfl rfl rfl has71 rfl (r_answer (S := ([b1] ++ S)) (⟨_, _, _, _, _, (Le.bk (hl1.trans ((Le.drew w1).trans (qle14.trans (Le.drew w61)))) hb2), (RdX.more (Le.rdx (hl1.trans ((Le.drew w1).trans (qle14.trans (Le.drew w61)))) hz6) hz6.rd rfl (inc (Nat.le_refl _) hb3z inn)), (RdX.more (Le.rdx (hl1.trans ((Le.drew w1).trans (qle14.trans (Le.drew w61)))) hz7) hz7.rd rfl (inc (Nat.le_refl _) hb3z inn)), (RdX.more (Le.rdx (hl1.trans ((Le.drew w1).trans (qle14.trans (Le.drew w61)))) hz8) hz8.rd rfl (inc (Nat.le_refl _) hb3z inn)), (RdX.more (Le.rdx (hl1.trans ((Le.drew w1).trans (qle14.trans (Le.drew w61)))) hz9) hz9.rd rfl (inc (Nat.le_refl _) hb3z inn)), (RdX.more (Le.rdx (hl1.trans ((Le.drew w1).trans (qle14.trans (Le.drew w61)))) hz10) hz10.rd rfl (inc (Nat.le_refl _) hb3z inn))⟩ : Cl ([b1] ++ S) w61.drew 118 bw c) hok (List.mem_append_right _ hmw) (lt_app (lt_cons (Nat.lt_of_lt_of_le (bk_lt hb3) (Nat.le_trans (Le.drew w1).size (Nat.le_trans qle14.size (Le.drew w61).size))) lt_nil) (lt_le hS (Nat.le_trans hl1.size (Nat.le_trans (Le.drew w1).size (Nat.le_trans qle14.size (Le.drew w61).size))))) (a := ⟨o.a.se, o.a.rq, ⟨o.a.r.e, o.a.r.vals, o.a.r.slot, o.a.r.place⟩⟩) (RdX.more (Le.rdx (hl1.trans ((Le.drew w1).trans (qle14.trans (Le.drew w61)))) hx) hx.rd rfl (inc (Nat.le_refl _) hb3z inn)) ho.a) ?_
      rintro _ w62 (⟨qf15, rfl, qle15⟩ | ⟨qf16, rfl, qlx21, qcl21⟩)
      ·
       refine ⟨(Lx.trans (Lx.trans (Lx.refl _ _) (Le.drew w61).lx) qle15.lx), ?_⟩
       refine LP rfl rfl rfl (xmv rfl) ?_
       refine LP rfl rfl rfl (xext rfl rfl) ?_
       refine LP rfl rfl rfl (xext rfl rfl) ?_
       refine LP rfl rfl rfl (xas rfl) ?_
       refine LP rfl rfl rfl (xas rfl) ?_
       refine LZ ?_
       refine F_seq ?_
       refine W_seq ?_
       refine W_reg (.pure 0 (.pure 1 (.pure 2 (.pure 3 (.pure 4 (.pure 5 (.pure 6 (.pure 7 (.pure 8 .nil))))))))) rfl ?_
       refine LP rfl rfl rfl (xmv rfl) ?_
       refine LP rfl rfl rfl (xmv rfl) ?_
       refine LP rfl rfl rfl (xbeq un4 rfl rfl) ?_
       refine L_is 128 (v := .bool true) rfl (by simp) ?_
       refine LP rfl rfl rfl (xmv rfl) ?_
       refine LP rfl rfl rfl (xmv rfl) ?_
       refine LP rfl rfl rfl (xmv rfl) ?_
       refine LP rfl rfl rfl (xeql rfl rfl) ?_
       refine L_is 132 (v := .bool true) rfl (by simp) ?_
       refine LP rfl rfl rfl (xpk1 rfl rfl) ?_
       refine LP rfl rfl rfl (xas rfl) ?_
       refine LZ ?_
       refine F_seq ?_
       refine W_ret ?_
       refine F_ret_block ?_
       refine F_ret_then ?_
       exact F_end1 rfl rfl ⟨_, rfl, S, _, _, rfl, (Lx.trans (Lx.trans (Lx.trans (Lx.trans (Lx.trans (Lx.refl _ _) hl1.lx) (Le.drew w1).lx) qle14.lx) (Le.drew w61).lx) qle15.lx).mono (ms_cons hmc (ms_cons hmw ms_nil)), ⟨(Le.bk (hl1.trans ((Le.drew w1).trans (qle14.trans ((Le.drew w61).trans qle15)))) hpP), (⟨_, _, _, _, _, (Le.bk (hl1.trans ((Le.drew w1).trans (qle14.trans ((Le.drew w61).trans qle15)))) hb1), (Le.rdx (hl1.trans ((Le.drew w1).trans (qle14.trans ((Le.drew w61).trans qle15)))) hz1), (Le.rdx (hl1.trans ((Le.drew w1).trans (qle14.trans ((Le.drew w61).trans qle15)))) hz2), (Le.rdx (hl1.trans ((Le.drew w1).trans (qle14.trans ((Le.drew w61).trans qle15)))) hz3), (Le.rdx (hl1.trans ((Le.drew w1).trans (qle14.trans ((Le.drew w61).trans qle15)))) hz4), (Le.rdx (hl1.trans ((Le.drew w1).trans (qle14.trans ((Le.drew w61).trans qle15)))) hz5)⟩ : Cl S w62 116 bc c), (⟨_, _, _, _, _, (Le.bk (hl1.trans ((Le.drew w1).trans (qle14.trans ((Le.drew w61).trans qle15)))) hb2), (Le.rdx (hl1.trans ((Le.drew w1).trans (qle14.trans ((Le.drew w61).trans qle15)))) hz6), (Le.rdx (hl1.trans ((Le.drew w1).trans (qle14.trans ((Le.drew w61).trans qle15)))) hz7), (Le.rdx (hl1.trans ((Le.drew w1).trans (qle14.trans ((Le.drew w61).trans qle15)))) hz8), (Le.rdx (hl1.trans ((Le.drew w1).trans (qle14.trans ((Le.drew w61).trans qle15)))) hz9), (Le.rdx (hl1.trans ((Le.drew w1).trans (qle14.trans ((Le.drew w61).trans qle15)))) hz10)⟩ : Cl S w62 118 bw c), hmp, hmc, hmw, hok, hlz, (lt_le hS (Nat.le_trans hl1.size (Nat.le_trans (Le.drew w1).size (Nat.le_trans qle14.size (Nat.le_trans (Le.drew w61).size qle15.size)))))⟩, fun i hi => .inl hi⟩
      ·
       exact absurd (qf13.symm.trans qf16) (by decide)
     ·
      have hk355 := qlx20.bk (ni_ne n1 ni_nil) (Le.bk (hl1.trans (Le.drew w1)) hpP)
      have hk356 := Lx.rdx2 qlx20 hz1.rd rfl (dr_in hmc dr_nil) (Le.rdx (hl1.trans (Le.drew w1)) hz1)
      have hk357 := Lx.rdx2 qlx20 hz2.rd rfl (dr_in hmc dr_nil) (Le.rdx (hl1.trans (Le.drew w1)) hz2)
      have hk358 := Lx.rdx2 qlx20 hz3.rd rfl (dr_in hmc dr_nil) (Le.rdx (hl1.trans (Le.drew w1)) hz3)
      have hk359 := Lx.rdx2 qlx20 hz4.rd rfl (dr_in hmc dr_nil) (Le.rdx (hl1.trans (Le.drew w1)) hz4)
      have hk360 := Lx.rdx2 qlx20 hz5.rd rfl (dr_in hmc dr_nil) (Le.rdx (hl1.trans (Le.drew w1)) hz5)
      have hk361 := qlx20.bk (ni_ne (Ne.symm n3) ni_nil) (Le.bk (hl1.trans (Le.drew w1)) hb2)
      have hk362 := Lx.rdx2 qlx20 hz6.rd rfl (dr_in hmc dr_nil) (Le.rdx (hl1.trans (Le.drew w1)) hz6)
      have hk363 := Lx.rdx2 qlx20 hz7.rd rfl (dr_in hmc dr_nil) (Le.rdx (hl1.trans (Le.drew w1)) hz7)
      have hk364 := Lx.rdx2 qlx20 hz8.rd rfl (dr_in hmc dr_nil) (Le.rdx (hl1.trans (Le.drew w1)) hz8)
      have hk365 := Lx.rdx2 qlx20 hz9.rd rfl (dr_in hmc dr_nil) (Le.rdx (hl1.trans (Le.drew w1)) hz9)
      have hk366 := Lx.rdx2 qlx20 hz10.rd rfl (dr_in hmc dr_nil) (Le.rdx (hl1.trans (Le.drew w1)) hz10)
      have hk367 := Lx.rdx2 qlx20 htc.rd rfl (dr_in hmc dr_nil) (Le.rdx (hl1.trans (Le.drew w1)) htc)
      have hk368 := Lx.rdx2 qlx20 hta.rd rfl (dr_in hmc dr_nil) (Le.rdx (hl1.trans (Le.drew w1)) hta)
      have hk369 := Lx.rdx2 qlx20 htr.rd rfl (dr_in hmc dr_nil) (Le.rdx (hl1.trans (Le.drew w1)) htr)
      have hk370 := Lx.rdx2 qlx20 htw.rd rfl (dr_in hmc dr_nil) (Le.rdx (hl1.trans (Le.drew w1)) htw)
      have hk371 := Lx.rdx2 qlx20 hx.rd rfl (dr_in hmc dr_nil) (Le.rdx (hl1.trans (Le.drew w1)) hx)
      have hk372 := Lx.rdx2 qlx20 hk.rd rfl (dr_in hmc dr_nil) (Le.rdx (hl1.trans (Le.drew w1)) hk)
      have hk373 := Lx.rdx2 qlx20 hp.rd rfl (dr_in hmc dr_nil) (Le.rdx (hl1.trans (Le.drew w1)) hp)
      have hk374 := qlx20.bk (ni_new hb3z (Nat.lt_of_lt_of_le (bk_lt hb1) (Nat.le_refl _)) ni_nil) (Le.bk (Le.drew w1) hb3)
      obtain ⟨z71, z72, z73, z74, z75, hb49, hz71, hz72, hz73, hz74, hz75⟩ := qcl20
      have lx51 : Lx [bc] w1 w61 := (qlx20.drop (Lx.trans (Lx.refl _ _) (Le.drew w1).lx) (dr_in (by simp) dr_nil))
      refine ⟨lx51, ?_⟩
      refine LP rfl rfl rfl (xmv rfl) ?_
      refine LP rfl rfl rfl (xext rfl rfl) ?_
      refine LP rfl rfl rfl (xext rfl rfl) ?_
      refine LP rfl rfl rfl (xas rfl) ?_
      refine LP rfl rfl rfl (xas rfl) ?_
      refine LZ ?_
      refine F_seq ?_
      refine W_seq ?_
      refine W_draw (.pure 0 (.pure 1 (.pure 2 (.still 3 (.pure 4 (.still 5 (.one 6 (.pure 7 (.pure 8 (.pure 9 (.pure 10 (.pure 11 .nil)))))))))))) (Lx [bw] w61) hfol (by kernel_rfl) (pkt (pkb (pkt pkB))) (Le.drew _).lx ?_
      refine LP rfl rfl rfl (xmv rfl) ?_
      refine LP rfl rfl rfl (xnc rfl) ?_
      refine LP rfl rfl rfl (xfa fa48_1 rfl) ?_
      refine LS rfl rfl rfl (fun w' hw' => (xld sc31 rfl (cl_bk (hw'.bk (ni_ne n2 ni_nil) hk355) rfl))) ?_
      refine LP rfl rfl rfl (xfa fa57_3 rfl) ?_
      refine LS rfl rfl rfl (fun w' hw' => (xlb6 ag52 (hw'.bk (ni_new hb3z (Nat.lt_of_lt_of_le (bk_lt hb2) (Nat.le_refl _)) ni_nil) hk374) rfl rfl rfl rfl rfl rfl rfl)) ?_
      refine LF rfl rfl rfl has71 rfl (r_answer (S := ([b1] ++ S)) (⟨_, _, _, _, _, (Le.bk (Le.drew w61) hk361), (RdX.more (Le.rdx (Le.drew w61) hk362) hz6.rd rfl (inc (Nat.le_refl _) hb3z inn)), (RdX.more (Le.rdx (Le.drew w61) hk363) hz7.rd rfl (inc (Nat.le_refl _) hb3z inn)), (RdX.more (Le.rdx (Le.drew w61) hk364) hz8.rd rfl (inc (Nat.le_refl _) hb3z inn)), (RdX.more (Le.rdx (Le.drew w61) hk365) hz9.rd rfl (inc (Nat.le_refl _) hb3z inn)), (RdX.more (Le.rdx (Le.drew w61) hk366) hz10.rd rfl (inc (Nat.le_refl _) hb3z inn))⟩ : Cl ([b1] ++ S) w61.drew 118 bw c) hok (List.mem_append_right _ hmw) (lt_app (lt_cons (Nat.lt_of_lt_of_le (bk_lt hb3) (Nat.le_trans (Le.drew w1).size (Nat.le_trans qlx20.size (Le.drew w61).size))) lt_nil) (lt_le hS (Nat.le_trans hl1.size (Nat.le_trans (Le.drew w1).size (Nat.le_trans qlx20.size (Le.drew w61).size))))) (a := ⟨o.a.se, o.a.rq, ⟨o.a.r.e, o.a.r.vals, o.a.r.slot, o.a.r.place⟩⟩) (RdX.more (Le.rdx (Le.drew w61) hk371) hx.rd rfl (inc (Nat.le_refl _) hb3z inn)) ho.a) ?_
      rintro _ w63 (⟨qf17, rfl, qle16⟩ | ⟨qf18, rfl, qlx22, qcl22⟩)
      ·
       exact absurd (qf17.symm.trans qf14) (by decide)
      ·
       have hk375 := qlx22.bk (ni_ne n2 ni_nil) (Le.bk (Le.drew w61) hk355)
       have hk376 := qlx22.bk (ni_ne n3 ni_nil) (Le.bk (Le.drew w61) hb49)
       have hk377 := Lx.rdx2 qlx22 hz71.rd rfl (dr_in (List.mem_append_right _ hmw) dr_nil) (Le.rdx (Le.drew w61) hz71)
       have hk378 := Lx.rdx2 qlx22 hz72.rd rfl (dr_in (List.mem_append_right _ hmw) dr_nil) (Le.rdx (Le.drew w61) hz72)
       have hk379 := Lx.rdx2 qlx22 hz73.rd rfl (dr_in (List.mem_append_right _ hmw) dr_nil) (Le.rdx (Le.drew w61) hz73)
       have hk380 := Lx.rdx2 qlx22 hz74.rd rfl (dr_in (List.mem_append_right _ hmw) dr_nil) (Le.rdx (Le.drew w61) hz74)
       have hk381 := Lx.rdx2 qlx22 hz75.rd rfl (dr_in (List.mem_append_right _ hmw) dr_nil) (Le.rdx (Le.drew w61) hz75)
       have hk382 := Lx.rdx2 qlx22 hz6.rd rfl (dr_in hmw dr_nil) (Le.rdx (Le.drew w61) hk362)
       have hk383 := Lx.rdx2 qlx22 hz7.rd rfl (dr_in hmw dr_nil) (Le.rdx (Le.drew w61) hk363)
       have hk384 := Lx.rdx2 qlx22 hz8.rd rfl (dr_in hmw dr_nil) (Le.rdx (Le.drew w61) hk364)
       have hk385 := Lx.rdx2 qlx22 hz9.rd rfl (dr_in hmw dr_nil) (Le.rdx (Le.drew w61) hk365)
       have hk386 := Lx.rdx2 qlx22 hz10.rd rfl (dr_in hmw dr_nil) (Le.rdx (Le.drew w61) hk366)
       have hk387 := Lx.rdx2 qlx22 htc.rd rfl (dr_in hmw dr_nil) (Le.rdx (Le.drew w61) hk367)
       have hk388 := Lx.rdx2 qlx22 hta.rd rfl (dr_in hmw dr_nil) (Le.rdx (Le.drew w61) hk368)
       have hk389 := Lx.rdx2 qlx22 htr.rd rfl (dr_in hmw dr_nil) (Le.rdx (Le.drew w61) hk369)
       have hk390 := Lx.rdx2 qlx22 htw.rd rfl (dr_in hmw dr_nil) (Le.rdx (Le.drew w61) hk370)
       have hk391 := Lx.rdx2 qlx22 hx.rd rfl (dr_in hmw dr_nil) (Le.rdx (Le.drew w61) hk371)
       have hk392 := Lx.rdx2 qlx22 hk.rd rfl (dr_in hmw dr_nil) (Le.rdx (Le.drew w61) hk372)
       have hk393 := Lx.rdx2 qlx22 hp.rd rfl (dr_in hmw dr_nil) (Le.rdx (Le.drew w61) hk373)
       have hk394 := qlx22.bk (ni_new hb3z (Nat.lt_of_lt_of_le (bk_lt hb2) (Nat.le_refl _)) ni_nil) (Le.bk (Le.drew w61) hk374)
       obtain ⟨z76, z77, z78, z79, z80, hb50, hz76, hz77, hz78, hz79, hz80⟩ := qcl22
       have lx52 : Lx [bw] w61 w63 := (qlx22.drop (Lx.trans (Lx.refl _ _) (Le.drew w61).lx) (dr_in (by simp) dr_nil))
       refine ⟨lx52, ?_⟩
       refine LP rfl rfl rfl (xmv rfl) ?_
       refine LP rfl rfl rfl (xext rfl rfl) ?_
       refine LP rfl rfl rfl (xext rfl rfl) ?_
       refine LP rfl rfl rfl (xas rfl) ?_
       refine LP rfl rfl rfl (xas rfl) ?_
       refine LZ ?_
       refine F_seq ?_
       refine W_seq ?_
       refine W_reg (.pure 0 (.pure 1 (.pure 2 (.pure 3 (.pure 4 (.pure 5 (.pure 6 (.pure 7 (.pure 8 .nil))))))))) rfl ?_
       refine LP rfl rfl rfl (xmv rfl) ?_
       refine LP rfl rfl rfl (xmv rfl) ?_
       refine LP rfl rfl rfl (xbeq un4 rfl rfl) ?_
       refine L_is 128 (v := .bool true) rfl (by simp) ?_
       refine LP rfl rfl rfl (xmv rfl) ?_
       refine LP rfl rfl rfl (xmv rfl) ?_
       refine LP rfl rfl rfl (xmv rfl) ?_
       refine LP rfl rfl rfl (xeql rfl rfl) ?_
       refine L_is 132 (v := .bool true) rfl (by simp) ?_
       refine LP rfl rfl rfl (xpk1 rfl rfl) ?_
       refine LP rfl rfl rfl (xas rfl) ?_
       refine LZ ?_
       refine F_seq ?_
       refine W_ret ?_
       refine F_ret_block ?_
       refine F_ret_then ?_
       have lx53 : Lx [bc, bw] w w61 := (qlx20.drop (Lx.trans (Lx.trans (Lx.refl _ _) hl1.lx) (Le.drew w1).lx) (dr_in (by simp) dr_nil))
       have lx54 : Lx [bc, bw] w w63 := (qlx22.drop (Lx.trans lx53 (Le.drew w61).lx) (dr_in (by simp) dr_nil))
       exact F_end1 rfl rfl ⟨_, rfl, S, _, _, rfl, lx54.mono (ms_cons hmc (ms_cons hmw ms_nil)), ⟨hk375, (⟨_, _, _, _, _, hk376, (hk377.less fun i hi => List.mem_append_right _ hi), (hk378.less fun i hi => List.mem_append_right _ hi), (hk379.less fun i hi => List.mem_append_right _ hi), (hk380.less fun i hi => List.mem_append_right _ hi), (hk381.less fun i hi => List.mem_append_right _ hi)⟩ : Cl S w63 116 bc (ansC c ⟨o.a.se, o.a.rq, ⟨o.a.r.e, o.a.r.vals, o.a.r.slot, o.a.r.place⟩⟩)), (⟨_, _, _, _, _, hb50, (hz76.less fun i hi => List.mem_append_right _ hi), (hz77.less fun i hi => List.mem_append_right _ hi), (hz78.less fun i hi => List.mem_append_right _ hi), (hz79.less fun i hi => List.mem_append_right _ hi), (hz80.less fun i hi => List.mem_append_right _ hi)⟩ : Cl S w63 118 bw (ansC c ⟨o.a.se, o.a.rq, ⟨o.a.r.e, o.a.r.vals, o.a.r.slot, o.a.r.place⟩⟩)), hmp, hmc, hmw, (ansC_ok hok ho.a), (fun h => absurd h (by simp [ansC])), (lt_le hS (Nat.le_trans hl1.size (Nat.le_trans (Le.drew w1).size (Nat.le_trans qlx20.size (Nat.le_trans (Le.drew w61).size qlx22.size)))))⟩, fun i hi => .inl hi⟩
   · -- c3 no
    replace c3 := of_decide_eq_false c3
    refine W_seq ?_
    refine W_reg (.pure 0 (.pure 1 .nil)) rfl ?_
    refine LP rfl rfl rfl (xeql rfl rfl) ?_
    refine LP rfl rfl rfl (xas rfl) ?_
    refine LZ ?_
    refine F_seq ?_
    refine W_cond rfl (fun c5 => ?_) (fun c5 => ?_)
    · -- c5 yes
     replace c5 := of_decide_eq_true c5
     refine W_seq ?_
     refine W_draw (.pure 0 (.pure 1 (.pure 2 (.still 3 (.pure 4 (.still 5 (.pure 6 (.still 7 (.two 8 12 (.pure 9 (.pure 10 (.pure 11 (.one 12 (.tail 13 (.pure 14 .nil)))))) (.one 8 (.pure 9 (.pure 10 (.pure 11 (.tail 13 (.pure 14 .nil))))))))))))))) (Le w1) hfol (by kernel_rfl) (pkt (pkb (pkt pkB))) (Le.drew _) ?_
     refine LP rfl rfl rfl (xmv rfl) ?_
     refine LP rfl rfl rfl (xnc rfl) ?_
     refine LP rfl rfl rfl (xfa fa48_0 rfl) ?_
     refine LS rfl rfl rfl (fun w' hw' => (xld sc27 rfl (cl_bk (Le.bk (hl1.trans hw') hpP) rfl))) ?_
     refine LP rfl rfl rfl (xfa fa57_2 rfl) ?_
     refine LS rfl rfl rfl (fun w' hw' => (xld sc3 rfl (cl_bk (Le.bk hw' hb3) rfl))) ?_
     refine LP rfl rfl rfl (xfa fa57_5 rfl) ?_
     refine LS rfl rfl rfl (fun w' hw' => (xld sc24 rfl (cl_bk (Le.bk hw' hb3) rfl))) ?_
     refine L_two ?_ ?_
     ·
      refine LF rfl rfl rfl has72 rfl (c_query (S := ([b1] ++ S)) (⟨_, _, _, _, _, (Le.bk (hl1.trans (Le.drew w1)) hb1), (RdX.more (Le.rdx (hl1.trans (Le.drew w1)) hz1) hz1.rd rfl (inc (Nat.le_refl _) hb3z inn)), (RdX.more (Le.rdx (hl1.trans (Le.drew w1)) hz2) hz2.rd rfl (inc (Nat.le_refl _) hb3z inn)), (RdX.more (Le.rdx (hl1.trans (Le.drew w1)) hz3) hz3.rd rfl (inc (Nat.le_refl _) hb3z inn)), (RdX.more (Le.rdx (hl1.trans (Le.drew w1)) hz4) hz4.rd rfl (inc (Nat.le_refl _) hb3z inn)), (RdX.more (Le.rdx (hl1.trans (Le.drew w1)) hz5) hz5.rd rfl (inc (Nat.le_refl _) hb3z inn))⟩ : Cl ([b1] ++ S) w1.drew 116 bc c) hok (List.mem_append_right _ hmc) (lt_app (lt_cons (Nat.lt_of_lt_of_le (bk_lt hb3) (Le.drew w1).size) lt_nil) (lt_le hS (Nat.le_trans hl1.size (Le.drew w1).size))) (rep := o.rep) (l := o.keys) (RdE.le (hl1.trans (Le.drew w1)) hk.rd) ho.k) ?_
      rintro _ w64 (⟨qne11, rfl, qle17⟩ | ⟨qeq11, qxk1, rfl, qle18, qo1⟩)
      ·
       refine ⟨((Le.drew w1).trans qle17), ?_⟩
       refine LP rfl rfl rfl (xmv rfl) ?_
       refine LP rfl rfl rfl (xext rfl rfl) ?_
       refine LP rfl rfl rfl (xext rfl rfl) ?_
       refine LT rfl rfl rfl (xal zr36) ?_
       rintro _ w65 ⟨b17, rfl, hl27, hb51, hb51z⟩
       refine ⟨((Le.drew w1).trans (qle17.trans hl27)), ?_⟩
       refine LUt rfl rfl (xsb sz36 hb51 rfl rfl (agg_cells _) rfl rfl (al_cons rfl (al_cons rfl (al_cons rfl (al_cons rfl (al_cons rfl (al_cons rfl (al_cons rfl (al_cons rfl (al_cons rfl (al_cons rfl al_nil))))))))))) ?_
       rintro w66 ⟨hq19, hb52⟩
       dsimp only [put] at hb52
       refine LP rfl rfl rfl (xas rfl) ?_
       refine LZ ?_
       refine F_seq ?_
       refine W_seq ?_
       refine W_draw (.pure 0 (.pure 1 (.pure 2 (.still 3 (.pure 4 (.still 5 (.pure 6 (.still 7 (.two 8 12 (.pure 9 (.pure 10 (.pure 11 (.one 12 (.tail 13 (.pure 14 .nil)))))) (.one 8 (.pure 9 (.pure 10 (.pure 11 (.tail 13 (.pure 14 .nil))))))))))))))) (Le w66) hfol (by kernel_rfl) (pkt (pkb (pkt pkB))) (Le.drew _) ?_
       refine LP rfl rfl rfl (xmv rfl) ?_
       refine LP rfl rfl rfl (xnc rfl) ?_
       refine LP rfl rfl rfl (xfa fa48_1 rfl) ?_
       have le22 : Le w w66 := (hq19.le (hl1.trans ((Le.drew w1).trans (qle17.trans hl27))) (inc (Nat.le_trans hl1.size (Nat.le_trans (Le.drew w1).size qle17.size)) hb51z inn))
       refine LS rfl rfl rfl (fun w' hw' => (xld sc31 rfl (cl_bk (Le.bk (le22.trans hw') hpP) rfl))) ?_
       refine LP rfl rfl rfl (xfa fa57_2 rfl) ?_
       have le23 : Le w1 w66 := (hq19.le ((Le.drew w1).trans (qle17.trans hl27)) (inc (Nat.le_trans (Le.drew w1).size qle17.size) hb51z inn))
       refine LS rfl rfl rfl (fun w' hw' => (xld sc3 rfl (cl_bk (Le.bk (le23.trans hw') hb3) rfl))) ?_
       refine LP rfl rfl rfl (xfa fa57_5 rfl) ?_
       refine LS rfl rfl rfl (fun w' hw' => (xld sc24 rfl (cl_bk (Le.bk (le23.trans hw') hb3) rfl))) ?_
       refine L_two ?_ ?_
       ·
        refine LF rfl rfl rfl has73 rfl (r_query (S := ([b1, b17] ++ S)) (⟨_, _, _, _, _, (Le.bk (le22.trans (Le.drew w66)) hb2), (RdX.more (Le.rdx (le22.trans (Le.drew w66)) hz6) hz6.rd rfl (inc (Nat.le_refl _) hb3z (inc (Nat.le_trans hl1.size (Nat.le_trans (Le.drew w1).size qle17.size)) hb51z inn))), (RdX.more (Le.rdx (le22.trans (Le.drew w66)) hz7) hz7.rd rfl (inc (Nat.le_refl _) hb3z (inc (Nat.le_trans hl1.size (Nat.le_trans (Le.drew w1).size qle17.size)) hb51z inn))), (RdX.more (Le.rdx (le22.trans (Le.drew w66)) hz8) hz8.rd rfl (inc (Nat.le_refl _) hb3z (inc (Nat.le_trans hl1.size (Nat.le_trans (Le.drew w1).size qle17.size)) hb51z inn))), (RdX.more (Le.rdx (le22.trans (Le.drew w66)) hz9) hz9.rd rfl (inc (Nat.le_refl _) hb3z (inc (Nat.le_trans hl1.size (Nat.le_trans (Le.drew w1).size qle17.size)) hb51z inn))), (RdX.more (Le.rdx (le22.trans (Le.drew w66)) hz10) hz10.rd rfl (inc (Nat.le_refl _) hb3z (inc (Nat.le_trans hl1.size (Nat.le_trans (Le.drew w1).size qle17.size)) hb51z inn)))⟩ : Cl ([b1, b17] ++ S) w66.drew 118 bw c) hok (List.mem_append_right _ hmw) (lt_app (lt_cons (Nat.lt_of_lt_of_le (bk_lt hb3) (Nat.le_trans (Le.drew w1).size (Nat.le_trans qle17.size (Nat.le_trans hl27.size (Nat.le_trans hq19.size (Le.drew w66).size))))) (lt_cons (Nat.lt_of_lt_of_le (bk_lt hb51) (Nat.le_trans hq19.size (Le.drew w66).size)) lt_nil)) (lt_le hS (Nat.le_trans hl1.size (Nat.le_trans (Le.drew w1).size (Nat.le_trans qle17.size (Nat.le_trans hl27.size (Nat.le_trans hq19.size (Le.drew w66).size))))))) (rep := o.rep) (l := o.keys) (RdE.le (le22.trans (Le.drew w66)) hk.rd) ho.k) ?_
        rintro _ w67 (⟨qne12, rfl, qle19⟩ | ⟨qeq12, qxk2, rfl, qle20, qo2⟩)
        ·
         refine ⟨((Le.drew w66).trans qle19), ?_⟩
         refine LP rfl rfl rfl (xmv rfl) ?_
         refine LP rfl rfl rfl (xext rfl rfl) ?_
         refine LP rfl rfl rfl (xext rfl rfl) ?_
         refine LT rfl rfl rfl (xal zr36) ?_
         rintro _ w68 ⟨b18, rfl, hl28, hb53, hb53z⟩
         refine ⟨((Le.drew w66).trans (qle19.trans hl28)), ?_⟩
         refine LUt rfl rfl (xsb sz36 hb53 rfl rfl (agg_cells _) rfl rfl (al_cons rfl (al_cons rfl (al_cons rfl (al_cons rfl (al_cons rfl (al_cons rfl (al_cons rfl (al_cons rfl (al_cons rfl (al_cons rfl al_nil))))))))))) ?_
         rintro w69 ⟨hq20, hb54⟩
         dsimp only [put] at hb54
         refine LP rfl rfl rfl (xas rfl) ?_
         refine LZ ?_
         refine F_seq ?_
         refine W_seq ?_
         refine W_reg (.pure 0 (.pure 1 (.pure 2 (.pure 3 (.one 4 (.one 5 (.one 6 (.pure 7 (.pure 8 .nil))))))))) rfl ?_
         refine LP rfl rfl rfl (xmv rfl) ?_
         refine LP rfl rfl rfl (xmv rfl) ?_
         refine LP rfl rfl rfl (xeql rfl rfl) ?_
         refine L_is 162 (v := .bool true) rfl (by simp) ?_
         refine LP rfl rfl rfl (xmv rfl) ?_
         have le24 : Le w66 w69 := (hq20.le ((Le.drew w66).trans (qle19.trans hl28)) (inc (Nat.le_trans (Le.drew w66).size qle19.size) hb53z inn))
         refine LX rfl rfl rfl (xlb10 ag36 (Le.bk le24 hb52) rfl rfl rfl rfl rfl rfl rfl rfl rfl rfl rfl) trivial ?_
         refine LX rfl rfl rfl (xlb10 ag36 hb54 rfl rfl rfl rfl rfl rfl rfl rfl rfl rfl rfl) trivial ?_
         refine LF rfl rfl rfl has69 rfl (askSame (rep := 0) (least := 0) (q := false) (l := []) (t := ⟨0, 0, [], [], [], []⟩) (RdE.nil _ _) (RdE.nil _ _) (RdE.nil _ _) (RdE.nil _ _) (RdE.nil _ _) (RdE.nil _ _) (RdE.nil _ _) (RdE.nil _ _) (RdE.nil _ _) (RdE.nil _ _)) ?_
         rintro _ w70 ⟨rfl, hl29⟩
         refine ⟨trivial, ?_⟩
         refine LP rfl rfl rfl (xpk1 rfl rfl) ?_
         refine LP rfl rfl rfl (xas rfl) ?_
         refine LZ ?_
         refine F_seq ?_
         refine W_ret ?_
         refine F_ret_block ?_
         refine F_ret_then ?_
         have lx55 : Lx [bc, bw] w w66 := (hq19.drop (Lx.trans (Lx.trans (Lx.trans (Lx.trans (Lx.refl _ _) hl1.lx) (Le.drew w1).lx) qle17.lx) hl27.lx) (dr_new (Nat.le_trans hl1.size (Nat.le_trans (Le.drew w1).size qle17.size)) hb51z dr_nil))
         have lx56 : Lx [bc, bw] w w69 := (hq20.drop (Lx.trans (Lx.trans (Lx.trans lx55 (Le.drew w66).lx) qle19.lx) hl28.lx) (dr_new (Nat.le_trans hl1.size (Nat.le_trans (Le.drew w1).size (Nat.le_trans qle17.size (Nat.le_trans hl27.size (Nat.le_trans hq19.size (Nat.le_trans (Le.drew w66).size qle19.size)))))) hb53z dr_nil))
         have le25 : Le w w69 := (hq20.le (le22.trans ((Le.drew w66).trans (qle19.trans hl28))) (inc (Nat.le_trans hl1.size (Nat.le_trans (Le.drew w1).size (Nat.le_trans qle17.size (Nat.le_trans hl27.size (Nat.le_trans hq19.size (Nat.le_trans (Le.drew w66).size qle19.size)))))) hb53z inn))
         exact F_end1 rfl rfl ⟨_, rfl, S, _, _, rfl, (Lx.trans lx56 hl29.lx).mono (ms_cons hmc (ms_cons hmw ms_nil)), ⟨(Le.bk (le25.trans hl29) hpP), (⟨_, _, _, _, _, (Le.bk (le25.trans hl29) hb1), (Le.rdx (le25.trans hl29) hz1), (Le.rdx (le25.trans hl29) hz2), (Le.rdx (le25.trans hl29) hz3), (Le.rdx (le25.trans hl29) hz4), (Le.rdx (le25.trans hl29) hz5)⟩ : Cl S w70 116 bc c), (⟨_, _, _, _, _, (Le.bk (le25.trans hl29) hb2), (Le.rdx (le25.trans hl29) hz6), (Le.rdx (le25.trans hl29) hz7), (Le.rdx (le25.trans hl29) hz8), (Le.rdx (le25.trans hl29) hz9), (Le.rdx (le25.trans hl29) hz10)⟩ : Cl S w70 118 bw c), hmp, hmc, hmw, hok, hlz, (lt_le hS (Nat.le_trans hl1.size (Nat.le_trans (Le.drew w1).size (Nat.le_trans qle17.size (Nat.le_trans hl27.size (Nat.le_trans hq19.size (Nat.le_trans (Le.drew w66).size (Nat.le_trans qle19.size (Nat.le_trans hl28.size (Nat.le_trans hq20.size hl29.size))))))))))⟩, fun i hi => .inl hi⟩
        ·
         exact absurd qeq12 qne11
       ·
        refine LT rfl rfl rfl (xal zr36) ?_
        rintro _ w71 ⟨b19, rfl, hl30, hb55, hb55z⟩
        refine ⟨((Le.drew w66).trans hl30), ?_⟩
        refine LF rfl rfl rfl has73 rfl (r_query (S := ([b1, b17, b19] ++ S)) (⟨_, _, _, _, _, (Le.bk (le22.trans ((Le.drew w66).trans hl30)) hb2), (RdX.more (Le.rdx (le22.trans ((Le.drew w66).trans hl30)) hz6) hz6.rd rfl (inc (Nat.le_refl _) hb3z (inc (Nat.le_trans hl1.size (Nat.le_trans (Le.drew w1).size qle17.size)) hb51z (inc (Nat.le_trans hl1.size (Nat.le_trans (Le.drew w1).size (Nat.le_trans qle17.size (Nat.le_trans hl27.size (Nat.le_trans hq19.size (Le.drew w66).size))))) hb55z inn)))), (RdX.more (Le.rdx (le22.trans ((Le.drew w66).trans hl30)) hz7) hz7.rd rfl (inc (Nat.le_refl _) hb3z (inc (Nat.le_trans hl1.size (Nat.le_trans (Le.drew w1).size qle17.size)) hb51z (inc (Nat.le_trans hl1.size (Nat.le_trans (Le.drew w1).size (Nat.le_trans qle17.size (Nat.le_trans hl27.size (Nat.le_trans hq19.size (Le.drew w66).size))))) hb55z inn)))), (RdX.more (Le.rdx (le22.trans ((Le.drew w66).trans hl30)) hz8) hz8.rd rfl (inc (Nat.le_refl _) hb3z (inc (Nat.le_trans hl1.size (Nat.le_trans (Le.drew w1).size qle17.size)) hb51z (inc (Nat.le_trans hl1.size (Nat.le_trans (Le.drew w1).size (Nat.le_trans qle17.size (Nat.le_trans hl27.size (Nat.le_trans hq19.size (Le.drew w66).size))))) hb55z inn)))), (RdX.more (Le.rdx (le22.trans ((Le.drew w66).trans hl30)) hz9) hz9.rd rfl (inc (Nat.le_refl _) hb3z (inc (Nat.le_trans hl1.size (Nat.le_trans (Le.drew w1).size qle17.size)) hb51z (inc (Nat.le_trans hl1.size (Nat.le_trans (Le.drew w1).size (Nat.le_trans qle17.size (Nat.le_trans hl27.size (Nat.le_trans hq19.size (Le.drew w66).size))))) hb55z inn)))), (RdX.more (Le.rdx (le22.trans ((Le.drew w66).trans hl30)) hz10) hz10.rd rfl (inc (Nat.le_refl _) hb3z (inc (Nat.le_trans hl1.size (Nat.le_trans (Le.drew w1).size qle17.size)) hb51z (inc (Nat.le_trans hl1.size (Nat.le_trans (Le.drew w1).size (Nat.le_trans qle17.size (Nat.le_trans hl27.size (Nat.le_trans hq19.size (Le.drew w66).size))))) hb55z inn))))⟩ : Cl ([b1, b17, b19] ++ S) w71 118 bw c) hok (List.mem_append_right _ hmw) (lt_app (lt_cons (Nat.lt_of_lt_of_le (bk_lt hb3) (Nat.le_trans (Le.drew w1).size (Nat.le_trans qle17.size (Nat.le_trans hl27.size (Nat.le_trans hq19.size (Nat.le_trans (Le.drew w66).size hl30.size)))))) (lt_cons (Nat.lt_of_lt_of_le (bk_lt hb51) (Nat.le_trans hq19.size (Nat.le_trans (Le.drew w66).size hl30.size))) (lt_cons (Nat.lt_of_lt_of_le (bk_lt hb55) (Nat.le_refl _)) lt_nil))) (lt_le hS (Nat.le_trans hl1.size (Nat.le_trans (Le.drew w1).size (Nat.le_trans qle17.size (Nat.le_trans hl27.size (Nat.le_trans hq19.size (Nat.le_trans (Le.drew w66).size hl30.size)))))))) (rep := o.rep) (l := o.keys) (RdE.le (le22.trans ((Le.drew w66).trans hl30)) hk.rd) ho.k) ?_
        rintro _ w72 (⟨qne13, rfl, qle21⟩ | ⟨qeq13, qxk3, rfl, qle22, qo3⟩)
        ·
         refine ⟨((Le.drew w66).trans (hl30.trans qle21)), ?_⟩
         refine LP rfl rfl rfl (xmv rfl) ?_
         refine LP rfl rfl rfl (xext rfl rfl) ?_
         refine LP rfl rfl rfl (xext rfl rfl) ?_
         refine LUt rfl rfl (xsb sz36 (Le.bk qle21 hb55) rfl rfl (agg_cells _) rfl rfl (al_cons rfl (al_cons rfl (al_cons rfl (al_cons rfl (al_cons rfl (al_cons rfl (al_cons rfl (al_cons rfl (al_cons rfl (al_cons rfl al_nil))))))))))) ?_
         rintro w73 ⟨hq21, hb56⟩
         dsimp only [put] at hb56
         refine LP rfl rfl rfl (xas rfl) ?_
         refine LZ ?_
         refine F_seq ?_
         refine W_seq ?_
         refine W_reg (.pure 0 (.pure 1 (.pure 2 (.pure 3 (.one 4 (.one 5 (.one 6 (.pure 7 (.pure 8 .nil))))))))) rfl ?_
         refine LP rfl rfl rfl (xmv rfl) ?_
         refine LP rfl rfl rfl (xmv rfl) ?_
         refine LP rfl rfl rfl (xeql rfl rfl) ?_
         refine L_is 162 (v := .bool true) rfl (by simp) ?_
         refine LP rfl rfl rfl (xmv rfl) ?_
         have le26 : Le w66 w73 := (hq21.le ((Le.drew w66).trans (hl30.trans qle21)) (inc (Le.drew w66).size hb55z inn))
         refine LX rfl rfl rfl (xlb10 ag36 (Le.bk le26 hb52) rfl rfl rfl rfl rfl rfl rfl rfl rfl rfl rfl) trivial ?_
         refine LX rfl rfl rfl (xlb10 ag36 hb56 rfl rfl rfl rfl rfl rfl rfl rfl rfl rfl rfl) trivial ?_
         refine LF rfl rfl rfl has69 rfl (askSame (rep := 0) (least := 0) (q := false) (l := []) (t := ⟨0, 0, [], [], [], []⟩) (RdE.nil _ _) (RdE.nil _ _) (RdE.nil _ _) (RdE.nil _ _) (RdE.nil _ _) (RdE.nil _ _) (RdE.nil _ _) (RdE.nil _ _) (RdE.nil _ _) (RdE.nil _ _)) ?_
         rintro _ w74 ⟨rfl, hl31⟩
         refine ⟨trivial, ?_⟩
         refine LP rfl rfl rfl (xpk1 rfl rfl) ?_
         refine LP rfl rfl rfl (xas rfl) ?_
         refine LZ ?_
         refine F_seq ?_
         refine W_ret ?_
         refine F_ret_block ?_
         refine F_ret_then ?_
         have lx57 : Lx [bc, bw] w w66 := (hq19.drop (Lx.trans (Lx.trans (Lx.trans (Lx.trans (Lx.refl _ _) hl1.lx) (Le.drew w1).lx) qle17.lx) hl27.lx) (dr_new (Nat.le_trans hl1.size (Nat.le_trans (Le.drew w1).size qle17.size)) hb51z dr_nil))
         have lx58 : Lx [bc, bw] w w73 := (hq21.drop (Lx.trans (Lx.trans (Lx.trans lx57 (Le.drew w66).lx) hl30.lx) qle21.lx) (dr_new (Nat.le_trans hl1.size (Nat.le_trans (Le.drew w1).size (Nat.le_trans qle17.size (Nat.le_trans hl27.size (Nat.le_trans hq19.size (Le.drew w66).size))))) hb55z dr_nil))
         have le27 : Le w w73 := (hq21.le (le22.trans ((Le.drew w66).trans (hl30.trans qle21))) (inc (Nat.le_trans hl1.size (Nat.le_trans (Le.drew w1).size (Nat.le_trans qle17.size (Nat.le_trans hl27.size (Nat.le_trans hq19.size (Le.drew w66).size))))) hb55z inn))
         exact F_end1 rfl rfl ⟨_, rfl, S, _, _, rfl, (Lx.trans lx58 hl31.lx).mono (ms_cons hmc (ms_cons hmw ms_nil)), ⟨(Le.bk (le27.trans hl31) hpP), (⟨_, _, _, _, _, (Le.bk (le27.trans hl31) hb1), (Le.rdx (le27.trans hl31) hz1), (Le.rdx (le27.trans hl31) hz2), (Le.rdx (le27.trans hl31) hz3), (Le.rdx (le27.trans hl31) hz4), (Le.rdx (le27.trans hl31) hz5)⟩ : Cl S w74 116 bc c), (⟨_, _, _, _, _, (Le.bk (le27.trans hl31) hb2), (Le.rdx (le27.trans hl31) hz6), (Le.rdx (le27.trans hl31) hz7), (Le.rdx (le27.trans hl31) hz8), (Le.rdx (le27.trans hl31) hz9), (Le.rdx (le27.trans hl31) hz10)⟩ : Cl S w74 118 bw c), hmp, hmc, hmw, hok, hlz, (lt_le hS (Nat.le_trans hl1.size (Nat.le_trans (Le.drew w1).size (Nat.le_trans qle17.size (Nat.le_trans hl27.size (Nat.le_trans hq19.size (Nat.le_trans (Le.drew w66).size (Nat.le_trans hl30.size (Nat.le_trans qle21.size (Nat.le_trans hq21.size hl31.size))))))))))⟩, fun i hi => .inl hi⟩
        ·
         exact absurd qeq13 qne11
      ·
       refine ⟨((Le.drew w1).trans qle18), ?_⟩
       refine LP rfl rfl rfl (xmv rfl) ?_
       refine LP rfl rfl rfl (xext rfl rfl) ?_
       refine LP rfl rfl rfl (xext rfl rfl) ?_
       refine LT rfl rfl rfl (xal zr36) ?_
       rintro _ w75 ⟨b20, rfl, hl32, hb57, hb57z⟩
       refine ⟨((Le.drew w1).trans (qle18.trans hl32)), ?_⟩
       refine LUt rfl rfl (xsb sz36 hb57 rfl rfl (agg_cells _) rfl rfl (al_cons rfl (al_cons rfl (al_cons rfl (al_cons rfl (al_cons rfl (al_cons rfl (al_cons rfl (al_cons rfl (al_cons qo1.rd.sh.one (al_cons rfl al_nil))))))))))) ?_
       rintro w76 ⟨hq22, hb58⟩
       dsimp only [put] at hb58
       refine LP rfl rfl rfl (xas rfl) ?_
       refine LZ ?_
       refine F_seq ?_
       refine W_seq ?_
       refine W_draw (.pure 0 (.pure 1 (.pure 2 (.still 3 (.pure 4 (.still 5 (.pure 6 (.still 7 (.two 8 12 (.pure 9 (.pure 10 (.pure 11 (.one 12 (.tail 13 (.pure 14 .nil)))))) (.one 8 (.pure 9 (.pure 10 (.pure 11 (.tail 13 (.pure 14 .nil))))))))))))))) (Le w76) hfol (by kernel_rfl) (pkt (pkb (pkt pkB))) (Le.drew _) ?_
       refine LP rfl rfl rfl (xmv rfl) ?_
       refine LP rfl rfl rfl (xnc rfl) ?_
       refine LP rfl rfl rfl (xfa fa48_1 rfl) ?_
       have le28 : Le w w76 := (hq22.le (hl1.trans ((Le.drew w1).trans (qle18.trans hl32))) (inc (Nat.le_trans hl1.size (Nat.le_trans (Le.drew w1).size qle18.size)) hb57z inn))
       refine LS rfl rfl rfl (fun w' hw' => (xld sc31 rfl (cl_bk (Le.bk (le28.trans hw') hpP) rfl))) ?_
       refine LP rfl rfl rfl (xfa fa57_2 rfl) ?_
       have le29 : Le w1 w76 := (hq22.le ((Le.drew w1).trans (qle18.trans hl32)) (inc (Nat.le_trans (Le.drew w1).size qle18.size) hb57z inn))
       refine LS rfl rfl rfl (fun w' hw' => (xld sc3 rfl (cl_bk (Le.bk (le29.trans hw') hb3) rfl))) ?_
       refine LP rfl rfl rfl (xfa fa57_5 rfl) ?_
       refine LS rfl rfl rfl (fun w' hw' => (xld sc24 rfl (cl_bk (Le.bk (le29.trans hw') hb3) rfl))) ?_
       refine L_two ?_ ?_
       ·
        refine LF rfl rfl rfl has73 rfl (r_query (S := ([b1, b20] ++ S)) (⟨_, _, _, _, _, (Le.bk (le28.trans (Le.drew w76)) hb2), (RdX.more (Le.rdx (le28.trans (Le.drew w76)) hz6) hz6.rd rfl (inc (Nat.le_refl _) hb3z (inc (Nat.le_trans hl1.size (Nat.le_trans (Le.drew w1).size qle18.size)) hb57z inn))), (RdX.more (Le.rdx (le28.trans (Le.drew w76)) hz7) hz7.rd rfl (inc (Nat.le_refl _) hb3z (inc (Nat.le_trans hl1.size (Nat.le_trans (Le.drew w1).size qle18.size)) hb57z inn))), (RdX.more (Le.rdx (le28.trans (Le.drew w76)) hz8) hz8.rd rfl (inc (Nat.le_refl _) hb3z (inc (Nat.le_trans hl1.size (Nat.le_trans (Le.drew w1).size qle18.size)) hb57z inn))), (RdX.more (Le.rdx (le28.trans (Le.drew w76)) hz9) hz9.rd rfl (inc (Nat.le_refl _) hb3z (inc (Nat.le_trans hl1.size (Nat.le_trans (Le.drew w1).size qle18.size)) hb57z inn))), (RdX.more (Le.rdx (le28.trans (Le.drew w76)) hz10) hz10.rd rfl (inc (Nat.le_refl _) hb3z (inc (Nat.le_trans hl1.size (Nat.le_trans (Le.drew w1).size qle18.size)) hb57z inn)))⟩ : Cl ([b1, b20] ++ S) w76.drew 118 bw c) hok (List.mem_append_right _ hmw) (lt_app (lt_cons (Nat.lt_of_lt_of_le (bk_lt hb3) (Nat.le_trans (Le.drew w1).size (Nat.le_trans qle18.size (Nat.le_trans hl32.size (Nat.le_trans hq22.size (Le.drew w76).size))))) (lt_cons (Nat.lt_of_lt_of_le (bk_lt hb57) (Nat.le_trans hq22.size (Le.drew w76).size)) lt_nil)) (lt_le hS (Nat.le_trans hl1.size (Nat.le_trans (Le.drew w1).size (Nat.le_trans qle18.size (Nat.le_trans hl32.size (Nat.le_trans hq22.size (Le.drew w76).size))))))) (rep := o.rep) (l := o.keys) (RdE.le (le28.trans (Le.drew w76)) hk.rd) ho.k) ?_
        rintro _ w77 (⟨qne14, rfl, qle23⟩ | ⟨qeq14, qxk4, rfl, qle24, qo4⟩)
        ·
         exact absurd qeq11 qne14
        ·
         refine ⟨((Le.drew w76).trans qle24), ?_⟩
         refine LP rfl rfl rfl (xmv rfl) ?_
         refine LP rfl rfl rfl (xext rfl rfl) ?_
         refine LP rfl rfl rfl (xext rfl rfl) ?_
         refine LT rfl rfl rfl (xal zr36) ?_
         rintro _ w78 ⟨b21, rfl, hl33, hb59, hb59z⟩
         refine ⟨((Le.drew w76).trans (qle24.trans hl33)), ?_⟩
         refine LUt rfl rfl (xsb sz36 hb59 rfl rfl (agg_cells _) rfl rfl (al_cons rfl (al_cons rfl (al_cons rfl (al_cons rfl (al_cons rfl (al_cons rfl (al_cons rfl (al_cons rfl (al_cons qo4.rd.sh.one (al_cons rfl al_nil))))))))))) ?_
         rintro w79 ⟨hq23, hb60⟩
         dsimp only [put] at hb60
         refine LP rfl rfl rfl (xas rfl) ?_
         refine LZ ?_
         refine F_seq ?_
         refine W_seq ?_
         refine W_reg (.pure 0 (.pure 1 (.pure 2 (.pure 3 (.one 4 (.one 5 (.one 6 (.pure 7 (.pure 8 .nil))))))))) rfl ?_
         refine LP rfl rfl rfl (xmv rfl) ?_
         refine LP rfl rfl rfl (xmv rfl) ?_
         refine LP rfl rfl rfl (xeql rfl rfl) ?_
         refine L_is 162 (v := .bool true) rfl (by simp) ?_
         refine LP rfl rfl rfl (xmv rfl) ?_
         have le30 : Le w76 w79 := (hq23.le ((Le.drew w76).trans (qle24.trans hl33)) (inc (Nat.le_trans (Le.drew w76).size qle24.size) hb59z inn))
         refine LX rfl rfl rfl (xlb10 ag36 (Le.bk le30 hb58) rfl rfl rfl rfl rfl rfl rfl rfl rfl rfl rfl) trivial ?_
         refine LX rfl rfl rfl (xlb10 ag36 hb60 rfl rfl rfl rfl rfl rfl rfl rfl rfl rfl rfl) trivial ?_
         have le31 : Le w64 w76 := (hq22.le hl32 (inc (Nat.le_refl _) hb57z inn))
         have le32 : Le w64 w79 := (hq23.le (le31.trans ((Le.drew w76).trans (qle24.trans hl33))) (inc (Nat.le_trans hl32.size (Nat.le_trans hq22.size (Nat.le_trans (Le.drew w76).size qle24.size))) hb59z inn))
         have le33 : Le w77 w79 := (hq23.le hl33 (inc (Nat.le_refl _) hb59z inn))
         refine LF rfl rfl rfl has69 rfl (askSame (rep := o.rep) (least := c.tok) (q := true) (l := (keysOf o.keys)) (t := ⟨0, 0, [], [], [], []⟩) (RdE.nil _ _) (RdE.nil _ _) (RdE.nil _ _) (RdE.nil _ _) (RdE.nil _ _) (RdE.nil _ _) (RdE.nil _ _) (RdE.nil _ _) (RdE.le le32 qo1.rd) (RdE.le le33 qo4.rd)) ?_
         rintro _ w80 ⟨rfl, hl34⟩
         refine ⟨trivial, ?_⟩
         refine LP rfl rfl rfl (xpk1 rfl rfl) ?_
         refine LP rfl rfl rfl (xas rfl) ?_
         refine LZ ?_
         refine F_seq ?_
         refine W_ret ?_
         refine F_ret_block ?_
         refine F_ret_then ?_
         have lx59 : Lx [bc, bw] w w76 := (hq22.drop (Lx.trans (Lx.trans (Lx.trans (Lx.trans (Lx.refl _ _) hl1.lx) (Le.drew w1).lx) qle18.lx) hl32.lx) (dr_new (Nat.le_trans hl1.size (Nat.le_trans (Le.drew w1).size qle18.size)) hb57z dr_nil))
         have lx60 : Lx [bc, bw] w w79 := (hq23.drop (Lx.trans (Lx.trans (Lx.trans lx59 (Le.drew w76).lx) qle24.lx) hl33.lx) (dr_new (Nat.le_trans hl1.size (Nat.le_trans (Le.drew w1).size (Nat.le_trans qle18.size (Nat.le_trans hl32.size (Nat.le_trans hq22.size (Nat.le_trans (Le.drew w76).size qle24.size)))))) hb59z dr_nil))
         have le34 : Le w w79 := (hq23.le (le28.trans ((Le.drew w76).trans (qle24.trans hl33))) (inc (Nat.le_trans hl1.size (Nat.le_trans (Le.drew w1).size (Nat.le_trans qle18.size (Nat.le_trans hl32.size (Nat.le_trans hq22.size (Nat.le_trans (Le.drew w76).size qle24.size)))))) hb59z inn))
         exact F_end1 rfl rfl ⟨_, rfl, S, _, _, rfl, (Lx.trans lx60 hl34.lx).mono (ms_cons hmc (ms_cons hmw ms_nil)), ⟨(Le.bk (le34.trans hl34) hpP), (⟨_, _, _, _, _, (Le.bk (le34.trans hl34) hb1), (Le.rdx (le34.trans hl34) hz1), (Le.rdx (le34.trans hl34) hz2), (Le.rdx (le34.trans hl34) hz3), (Le.rdx (le34.trans hl34) hz4), (Le.rdx (le34.trans hl34) hz5)⟩ : Cl S w80 116 bc c), (⟨_, _, _, _, _, (Le.bk (le34.trans hl34) hb2), (Le.rdx (le34.trans hl34) hz6), (Le.rdx (le34.trans hl34) hz7), (Le.rdx (le34.trans hl34) hz8), (Le.rdx (le34.trans hl34) hz9), (Le.rdx (le34.trans hl34) hz10)⟩ : Cl S w80 118 bw c), hmp, hmc, hmw, hok, hlz, (lt_le hS (Nat.le_trans hl1.size (Nat.le_trans (Le.drew w1).size (Nat.le_trans qle18.size (Nat.le_trans hl32.size (Nat.le_trans hq22.size (Nat.le_trans (Le.drew w76).size (Nat.le_trans qle24.size (Nat.le_trans hl33.size (Nat.le_trans hq23.size hl34.size))))))))))⟩, fun i hi => .inl hi⟩
       ·
        refine LT rfl rfl rfl (xal zr36) ?_
        rintro _ w81 ⟨b22, rfl, hl35, hb61, hb61z⟩
        refine ⟨((Le.drew w76).trans hl35), ?_⟩
        refine LF rfl rfl rfl has73 rfl (r_query (S := ([b1, b20, b22] ++ S)) (⟨_, _, _, _, _, (Le.bk (le28.trans ((Le.drew w76).trans hl35)) hb2), (RdX.more (Le.rdx (le28.trans ((Le.drew w76).trans hl35)) hz6) hz6.rd rfl (inc (Nat.le_refl _) hb3z (inc (Nat.le_trans hl1.size (Nat.le_trans (Le.drew w1).size qle18.size)) hb57z (inc (Nat.le_trans hl1.size (Nat.le_trans (Le.drew w1).size (Nat.le_trans qle18.size (Nat.le_trans hl32.size (Nat.le_trans hq22.size (Le.drew w76).size))))) hb61z inn)))), (RdX.more (Le.rdx (le28.trans ((Le.drew w76).trans hl35)) hz7) hz7.rd rfl (inc (Nat.le_refl _) hb3z (inc (Nat.le_trans hl1.size (Nat.le_trans (Le.drew w1).size qle18.size)) hb57z (inc (Nat.le_trans hl1.size (Nat.le_trans (Le.drew w1).size (Nat.le_trans qle18.size (Nat.le_trans hl32.size (Nat.le_trans hq22.size (Le.drew w76).size))))) hb61z inn)))), (RdX.more (Le.rdx (le28.trans ((Le.drew w76).trans hl35)) hz8) hz8.rd rfl (inc (Nat.le_refl _) hb3z (inc (Nat.le_trans hl1.size (Nat.le_trans (Le.drew w1).size qle18.size)) hb57z (inc (Nat.le_trans hl1.size (Nat.le_trans (Le.drew w1).size (Nat.le_trans qle18.size (Nat.le_trans hl32.size (Nat.le_trans hq22.size (Le.drew w76).size))))) hb61z inn)))), (RdX.more (Le.rdx (le28.trans ((Le.drew w76).trans hl35)) hz9) hz9.rd rfl (inc (Nat.le_refl _) hb3z (inc (Nat.le_trans hl1.size (Nat.le_trans (Le.drew w1).size qle18.size)) hb57z (inc (Nat.le_trans hl1.size (Nat.le_trans (Le.drew w1).size (Nat.le_trans qle18.size (Nat.le_trans hl32.size (Nat.le_trans hq22.size (Le.drew w76).size))))) hb61z inn)))), (RdX.more (Le.rdx (le28.trans ((Le.drew w76).trans hl35)) hz10) hz10.rd rfl (inc (Nat.le_refl _) hb3z (inc (Nat.le_trans hl1.size (Nat.le_trans (Le.drew w1).size qle18.size)) hb57z (inc (Nat.le_trans hl1.size (Nat.le_trans (Le.drew w1).size (Nat.le_trans qle18.size (Nat.le_trans hl32.size (Nat.le_trans hq22.size (Le.drew w76).size))))) hb61z inn))))⟩ : Cl ([b1, b20, b22] ++ S) w81 118 bw c) hok (List.mem_append_right _ hmw) (lt_app (lt_cons (Nat.lt_of_lt_of_le (bk_lt hb3) (Nat.le_trans (Le.drew w1).size (Nat.le_trans qle18.size (Nat.le_trans hl32.size (Nat.le_trans hq22.size (Nat.le_trans (Le.drew w76).size hl35.size)))))) (lt_cons (Nat.lt_of_lt_of_le (bk_lt hb57) (Nat.le_trans hq22.size (Nat.le_trans (Le.drew w76).size hl35.size))) (lt_cons (Nat.lt_of_lt_of_le (bk_lt hb61) (Nat.le_refl _)) lt_nil))) (lt_le hS (Nat.le_trans hl1.size (Nat.le_trans (Le.drew w1).size (Nat.le_trans qle18.size (Nat.le_trans hl32.size (Nat.le_trans hq22.size (Nat.le_trans (Le.drew w76).size hl35.size)))))))) (rep := o.rep) (l := o.keys) (RdE.le (le28.trans ((Le.drew w76).trans hl35)) hk.rd) ho.k) ?_
        rintro _ w82 (⟨qne15, rfl, qle25⟩ | ⟨qeq15, qxk5, rfl, qle26, qo5⟩)
        ·
         exact absurd qeq11 qne15
        ·
         refine ⟨((Le.drew w76).trans (hl35.trans qle26)), ?_⟩
         refine LP rfl rfl rfl (xmv rfl) ?_
         refine LP rfl rfl rfl (xext rfl rfl) ?_
         refine LP rfl rfl rfl (xext rfl rfl) ?_
         refine LUt rfl rfl (xsb sz36 (Le.bk qle26 hb61) rfl rfl (agg_cells _) rfl rfl (al_cons rfl (al_cons rfl (al_cons rfl (al_cons rfl (al_cons rfl (al_cons rfl (al_cons rfl (al_cons rfl (al_cons qo5.rd.sh.one (al_cons rfl al_nil))))))))))) ?_
         rintro w83 ⟨hq24, hb62⟩
         dsimp only [put] at hb62
         have hk395 := hq24.ow (Off.cons (Ow.ne_new qo5 (Nat.lt_of_lt_of_le (bk_lt hb61) (Nat.le_refl _))) Off.nil) qo5
         refine LP rfl rfl rfl (xas rfl) ?_
         refine LZ ?_
         refine F_seq ?_
         refine W_seq ?_
         refine W_reg (.pure 0 (.pure 1 (.pure 2 (.pure 3 (.one 4 (.one 5 (.one 6 (.pure 7 (.pure 8 .nil))))))))) rfl ?_
         refine LP rfl rfl rfl (xmv rfl) ?_
         refine LP rfl rfl rfl (xmv rfl) ?_
         refine LP rfl rfl rfl (xeql rfl rfl) ?_
         refine L_is 162 (v := .bool true) rfl (by simp) ?_
         refine LP rfl rfl rfl (xmv rfl) ?_
         have le35 : Le w76 w83 := (hq24.le ((Le.drew w76).trans (hl35.trans qle26)) (inc (Le.drew w76).size hb61z inn))
         refine LX rfl rfl rfl (xlb10 ag36 (Le.bk le35 hb58) rfl rfl rfl rfl rfl rfl rfl rfl rfl rfl rfl) trivial ?_
         refine LX rfl rfl rfl (xlb10 ag36 hb62 rfl rfl rfl rfl rfl rfl rfl rfl rfl rfl rfl) trivial ?_
         have le36 : Le w64 w76 := (hq22.le hl32 (inc (Nat.le_refl _) hb57z inn))
         have le37 : Le w64 w83 := (hq24.le (le36.trans ((Le.drew w76).trans (hl35.trans qle26))) (inc (Nat.le_trans hl32.size (Nat.le_trans hq22.size (Le.drew w76).size)) hb61z inn))
         refine LF rfl rfl rfl has69 rfl (askSame (rep := o.rep) (least := c.tok) (q := true) (l := (keysOf o.keys)) (t := ⟨0, 0, [], [], [], []⟩) (RdE.nil _ _) (RdE.nil _ _) (RdE.nil _ _) (RdE.nil _ _) (RdE.nil _ _) (RdE.nil _ _) (RdE.nil _ _) (RdE.nil _ _) (RdE.le le37 qo1.rd) hk395.rd) ?_
         rintro _ w84 ⟨rfl, hl36⟩
         refine ⟨trivial, ?_⟩
         refine LP rfl rfl rfl (xpk1 rfl rfl) ?_
         refine LP rfl rfl rfl (xas rfl) ?_
         refine LZ ?_
         refine F_seq ?_
         refine W_ret ?_
         refine F_ret_block ?_
         refine F_ret_then ?_
         have lx61 : Lx [bc, bw] w w76 := (hq22.drop (Lx.trans (Lx.trans (Lx.trans (Lx.trans (Lx.refl _ _) hl1.lx) (Le.drew w1).lx) qle18.lx) hl32.lx) (dr_new (Nat.le_trans hl1.size (Nat.le_trans (Le.drew w1).size qle18.size)) hb57z dr_nil))
         have lx62 : Lx [bc, bw] w w83 := (hq24.drop (Lx.trans (Lx.trans (Lx.trans lx61 (Le.drew w76).lx) hl35.lx) qle26.lx) (dr_new (Nat.le_trans hl1.size (Nat.le_trans (Le.drew w1).size (Nat.le_trans qle18.size (Nat.le_trans hl32.size (Nat.le_trans hq22.size (Le.drew w76).size))))) hb61z dr_nil))
         have le38 : Le w w83 := (hq24.le (le28.trans ((Le.drew w76).trans (hl35.trans qle26))) (inc (Nat.le_trans hl1.size (Nat.le_trans (Le.drew w1).size (Nat.le_trans qle18.size (Nat.le_trans hl32.size (Nat.le_trans hq22.size (Le.drew w76).size))))) hb61z inn))
         exact F_end1 rfl rfl ⟨_, rfl, S, _, _, rfl, (Lx.trans lx62 hl36.lx).mono (ms_cons hmc (ms_cons hmw ms_nil)), ⟨(Le.bk (le38.trans hl36) hpP), (⟨_, _, _, _, _, (Le.bk (le38.trans hl36) hb1), (Le.rdx (le38.trans hl36) hz1), (Le.rdx (le38.trans hl36) hz2), (Le.rdx (le38.trans hl36) hz3), (Le.rdx (le38.trans hl36) hz4), (Le.rdx (le38.trans hl36) hz5)⟩ : Cl S w84 116 bc c), (⟨_, _, _, _, _, (Le.bk (le38.trans hl36) hb2), (Le.rdx (le38.trans hl36) hz6), (Le.rdx (le38.trans hl36) hz7), (Le.rdx (le38.trans hl36) hz8), (Le.rdx (le38.trans hl36) hz9), (Le.rdx (le38.trans hl36) hz10)⟩ : Cl S w84 118 bw c), hmp, hmc, hmw, hok, hlz, (lt_le hS (Nat.le_trans hl1.size (Nat.le_trans (Le.drew w1).size (Nat.le_trans qle18.size (Nat.le_trans hl32.size (Nat.le_trans hq22.size (Nat.le_trans (Le.drew w76).size (Nat.le_trans hl35.size (Nat.le_trans qle26.size (Nat.le_trans hq24.size hl36.size))))))))))⟩, fun i hi => .inl hi⟩
     ·
      refine LT rfl rfl rfl (xal zr36) ?_
      rintro _ w85 ⟨b23, rfl, hl37, hb63, hb63z⟩
      refine ⟨((Le.drew w1).trans hl37), ?_⟩
      refine LF rfl rfl rfl has72 rfl (c_query (S := ([b1, b23] ++ S)) (⟨_, _, _, _, _, (Le.bk (hl1.trans ((Le.drew w1).trans hl37)) hb1), (RdX.more (Le.rdx (hl1.trans ((Le.drew w1).trans hl37)) hz1) hz1.rd rfl (inc (Nat.le_refl _) hb3z (inc (Nat.le_trans hl1.size (Le.drew w1).size) hb63z inn))), (RdX.more (Le.rdx (hl1.trans ((Le.drew w1).trans hl37)) hz2) hz2.rd rfl (inc (Nat.le_refl _) hb3z (inc (Nat.le_trans hl1.size (Le.drew w1).size) hb63z inn))), (RdX.more (Le.rdx (hl1.trans ((Le.drew w1).trans hl37)) hz3) hz3.rd rfl (inc (Nat.le_refl _) hb3z (inc (Nat.le_trans hl1.size (Le.drew w1).size) hb63z inn))), (RdX.more (Le.rdx (hl1.trans ((Le.drew w1).trans hl37)) hz4) hz4.rd rfl (inc (Nat.le_refl _) hb3z (inc (Nat.le_trans hl1.size (Le.drew w1).size) hb63z inn))), (RdX.more (Le.rdx (hl1.trans ((Le.drew w1).trans hl37)) hz5) hz5.rd rfl (inc (Nat.le_refl _) hb3z (inc (Nat.le_trans hl1.size (Le.drew w1).size) hb63z inn)))⟩ : Cl ([b1, b23] ++ S) w85 116 bc c) hok (List.mem_append_right _ hmc) (lt_app (lt_cons (Nat.lt_of_lt_of_le (bk_lt hb3) (Nat.le_trans (Le.drew w1).size hl37.size)) (lt_cons (Nat.lt_of_lt_of_le (bk_lt hb63) (Nat.le_refl _)) lt_nil)) (lt_le hS (Nat.le_trans hl1.size (Nat.le_trans (Le.drew w1).size hl37.size)))) (rep := o.rep) (l := o.keys) (RdE.le (hl1.trans ((Le.drew w1).trans hl37)) hk.rd) ho.k) ?_
      rintro _ w86 (⟨qne16, rfl, qle27⟩ | ⟨qeq16, qxk6, rfl, qle28, qo6⟩)
      ·
       refine ⟨((Le.drew w1).trans (hl37.trans qle27)), ?_⟩
       refine LP rfl rfl rfl (xmv rfl) ?_
       refine LP rfl rfl rfl (xext rfl rfl) ?_
       refine LP rfl rfl rfl (xext rfl rfl) ?_
       refine LUt rfl rfl (xsb sz36 (Le.bk qle27 hb63) rfl rfl (agg_cells _) rfl rfl (al_cons rfl (al_cons rfl (al_cons rfl (al_cons rfl (al_cons rfl (al_cons rfl (al_cons rfl (al_cons rfl (al_cons rfl (al_cons rfl al_nil))))))))))) ?_
       rintro w87 ⟨hq25, hb64⟩
       dsimp only [put] at hb64
       refine LP rfl rfl rfl (xas rfl) ?_
       refine LZ ?_
       refine F_seq ?_
       refine W_seq ?_
       refine W_draw (.pure 0 (.pure 1 (.pure 2 (.still 3 (.pure 4 (.still 5 (.pure 6 (.still 7 (.two 8 12 (.pure 9 (.pure 10 (.pure 11 (.one 12 (.tail 13 (.pure 14 .nil)))))) (.one 8 (.pure 9 (.pure 10 (.pure 11 (.tail 13 (.pure 14 .nil))))))))))))))) (Le w87) hfol (by kernel_rfl) (pkt (pkb (pkt pkB))) (Le.drew _) ?_
       refine LP rfl rfl rfl (xmv rfl) ?_
       refine LP rfl rfl rfl (xnc rfl) ?_
       refine LP rfl rfl rfl (xfa fa48_1 rfl) ?_
       have le39 : Le w w87 := (hq25.le (hl1.trans ((Le.drew w1).trans (hl37.trans qle27))) (inc (Nat.le_trans hl1.size (Le.drew w1).size) hb63z inn))
       refine LS rfl rfl rfl (fun w' hw' => (xld sc31 rfl (cl_bk (Le.bk (le39.trans hw') hpP) rfl))) ?_
       refine LP rfl rfl rfl (xfa fa57_2 rfl) ?_
       have le40 : Le w1 w87 := (hq25.le ((Le.drew w1).trans (hl37.trans qle27)) (inc (Le.drew w1).size hb63z inn))
       refine LS rfl rfl rfl (fun w' hw' => (xld sc3 rfl (cl_bk (Le.bk (le40.trans hw') hb3) rfl))) ?_
       refine LP rfl rfl rfl (xfa fa57_5 rfl) ?_
       refine LS rfl rfl rfl (fun w' hw' => (xld sc24 rfl (cl_bk (Le.bk (le40.trans hw') hb3) rfl))) ?_
       refine L_two ?_ ?_
       ·
        refine LF rfl rfl rfl has73 rfl (r_query (S := ([b1, b23] ++ S)) (⟨_, _, _, _, _, (Le.bk (le39.trans (Le.drew w87)) hb2), (RdX.more (Le.rdx (le39.trans (Le.drew w87)) hz6) hz6.rd rfl (inc (Nat.le_refl _) hb3z (inc (Nat.le_trans hl1.size (Le.drew w1).size) hb63z inn))), (RdX.more (Le.rdx (le39.trans (Le.drew w87)) hz7) hz7.rd rfl (inc (Nat.le_refl _) hb3z (inc (Nat.le_trans hl1.size (Le.drew w1).size) hb63z inn))), (RdX.more (Le.rdx (le39.trans (Le.drew w87)) hz8) hz8.rd rfl (inc (Nat.le_refl _) hb3z (inc (Nat.le_trans hl1.size (Le.drew w1).size) hb63z inn))), (RdX.more (Le.rdx (le39.trans (Le.drew w87)) hz9) hz9.rd rfl (inc (Nat.le_refl _) hb3z (inc (Nat.le_trans hl1.size (Le.drew w1).size) hb63z inn))), (RdX.more (Le.rdx (le39.trans (Le.drew w87)) hz10) hz10.rd rfl (inc (Nat.le_refl _) hb3z (inc (Nat.le_trans hl1.size (Le.drew w1).size) hb63z inn)))⟩ : Cl ([b1, b23] ++ S) w87.drew 118 bw c) hok (List.mem_append_right _ hmw) (lt_app (lt_cons (Nat.lt_of_lt_of_le (bk_lt hb3) (Nat.le_trans (Le.drew w1).size (Nat.le_trans hl37.size (Nat.le_trans qle27.size (Nat.le_trans hq25.size (Le.drew w87).size))))) (lt_cons (Nat.lt_of_lt_of_le (bk_lt hb63) (Nat.le_trans qle27.size (Nat.le_trans hq25.size (Le.drew w87).size))) lt_nil)) (lt_le hS (Nat.le_trans hl1.size (Nat.le_trans (Le.drew w1).size (Nat.le_trans hl37.size (Nat.le_trans qle27.size (Nat.le_trans hq25.size (Le.drew w87).size))))))) (rep := o.rep) (l := o.keys) (RdE.le (le39.trans (Le.drew w87)) hk.rd) ho.k) ?_
        rintro _ w88 (⟨qne17, rfl, qle29⟩ | ⟨qeq17, qxk7, rfl, qle30, qo7⟩)
        ·
         refine ⟨((Le.drew w87).trans qle29), ?_⟩
         refine LP rfl rfl rfl (xmv rfl) ?_
         refine LP rfl rfl rfl (xext rfl rfl) ?_
         refine LP rfl rfl rfl (xext rfl rfl) ?_
         refine LT rfl rfl rfl (xal zr36) ?_
         rintro _ w89 ⟨b24, rfl, hl38, hb65, hb65z⟩
         refine ⟨((Le.drew w87).trans (qle29.trans hl38)), ?_⟩
         refine LUt rfl rfl (xsb sz36 hb65 rfl rfl (agg_cells _) rfl rfl (al_cons rfl (al_cons rfl (al_cons rfl (al_cons rfl (al_cons rfl (al_cons rfl (al_cons rfl (al_cons rfl (al_cons rfl (al_cons rfl al_nil))))))))))) ?_
         rintro w90 ⟨hq26, hb66⟩
         dsimp only [put] at hb66
         refine LP rfl rfl rfl (xas rfl) ?_
         refine LZ ?_
         refine F_seq ?_
         refine W_seq ?_
         refine W_reg (.pure 0 (.pure 1 (.pure 2 (.pure 3 (.one 4 (.one 5 (.one 6 (.pure 7 (.pure 8 .nil))))))))) rfl ?_
         refine LP rfl rfl rfl (xmv rfl) ?_
         refine LP rfl rfl rfl (xmv rfl) ?_
         refine LP rfl rfl rfl (xeql rfl rfl) ?_
         refine L_is 162 (v := .bool true) rfl (by simp) ?_
         refine LP rfl rfl rfl (xmv rfl) ?_
         have le41 : Le w87 w90 := (hq26.le ((Le.drew w87).trans (qle29.trans hl38)) (inc (Nat.le_trans (Le.drew w87).size qle29.size) hb65z inn))
         refine LX rfl rfl rfl (xlb10 ag36 (Le.bk le41 hb64) rfl rfl rfl rfl rfl rfl rfl rfl rfl rfl rfl) trivial ?_
         refine LX rfl rfl rfl (xlb10 ag36 hb66 rfl rfl rfl rfl rfl rfl rfl rfl rfl rfl rfl) trivial ?_
         refine LF rfl rfl rfl has69 rfl (askSame (rep := 0) (least := 0) (q := false) (l := []) (t := ⟨0, 0, [], [], [], []⟩) (RdE.nil _ _) (RdE.nil _ _) (RdE.nil _ _) (RdE.nil _ _) (RdE.nil _ _) (RdE.nil _ _) (RdE.nil _ _) (RdE.nil _ _) (RdE.nil _ _) (RdE.nil _ _)) ?_
         rintro _ w91 ⟨rfl, hl39⟩
         refine ⟨trivial, ?_⟩
         refine LP rfl rfl rfl (xpk1 rfl rfl) ?_
         refine LP rfl rfl rfl (xas rfl) ?_
         refine LZ ?_
         refine F_seq ?_
         refine W_ret ?_
         refine F_ret_block ?_
         refine F_ret_then ?_
         have lx63 : Lx [bc, bw] w w87 := (hq25.drop (Lx.trans (Lx.trans (Lx.trans (Lx.trans (Lx.refl _ _) hl1.lx) (Le.drew w1).lx) hl37.lx) qle27.lx) (dr_new (Nat.le_trans hl1.size (Le.drew w1).size) hb63z dr_nil))
         have lx64 : Lx [bc, bw] w w90 := (hq26.drop (Lx.trans (Lx.trans (Lx.trans lx63 (Le.drew w87).lx) qle29.lx) hl38.lx) (dr_new (Nat.le_trans hl1.size (Nat.le_trans (Le.drew w1).size (Nat.le_trans hl37.size (Nat.le_trans qle27.size (Nat.le_trans hq25.size (Nat.le_trans (Le.drew w87).size qle29.size)))))) hb65z dr_nil))
         have le42 : Le w w90 := (hq26.le (le39.trans ((Le.drew w87).trans (qle29.trans hl38))) (inc (Nat.le_trans hl1.size (Nat.le_trans (Le.drew w1).size (Nat.le_trans hl37.size (Nat.le_trans qle27.size (Nat.le_trans hq25.size (Nat.le_trans (Le.drew w87).size qle29.size)))))) hb65z inn))
         exact F_end1 rfl rfl ⟨_, rfl, S, _, _, rfl, (Lx.trans lx64 hl39.lx).mono (ms_cons hmc (ms_cons hmw ms_nil)), ⟨(Le.bk (le42.trans hl39) hpP), (⟨_, _, _, _, _, (Le.bk (le42.trans hl39) hb1), (Le.rdx (le42.trans hl39) hz1), (Le.rdx (le42.trans hl39) hz2), (Le.rdx (le42.trans hl39) hz3), (Le.rdx (le42.trans hl39) hz4), (Le.rdx (le42.trans hl39) hz5)⟩ : Cl S w91 116 bc c), (⟨_, _, _, _, _, (Le.bk (le42.trans hl39) hb2), (Le.rdx (le42.trans hl39) hz6), (Le.rdx (le42.trans hl39) hz7), (Le.rdx (le42.trans hl39) hz8), (Le.rdx (le42.trans hl39) hz9), (Le.rdx (le42.trans hl39) hz10)⟩ : Cl S w91 118 bw c), hmp, hmc, hmw, hok, hlz, (lt_le hS (Nat.le_trans hl1.size (Nat.le_trans (Le.drew w1).size (Nat.le_trans hl37.size (Nat.le_trans qle27.size (Nat.le_trans hq25.size (Nat.le_trans (Le.drew w87).size (Nat.le_trans qle29.size (Nat.le_trans hl38.size (Nat.le_trans hq26.size hl39.size))))))))))⟩, fun i hi => .inl hi⟩
        ·
         exact absurd qeq17 qne16
       ·
        refine LT rfl rfl rfl (xal zr36) ?_
        rintro _ w92 ⟨b25, rfl, hl40, hb67, hb67z⟩
        refine ⟨((Le.drew w87).trans hl40), ?_⟩
        refine LF rfl rfl rfl has73 rfl (r_query (S := ([b1, b23, b25] ++ S)) (⟨_, _, _, _, _, (Le.bk (le39.trans ((Le.drew w87).trans hl40)) hb2), (RdX.more (Le.rdx (le39.trans ((Le.drew w87).trans hl40)) hz6) hz6.rd rfl (inc (Nat.le_refl _) hb3z (inc (Nat.le_trans hl1.size (Le.drew w1).size) hb63z (inc (Nat.le_trans hl1.size (Nat.le_trans (Le.drew w1).size (Nat.le_trans hl37.size (Nat.le_trans qle27.size (Nat.le_trans hq25.size (Le.drew w87).size))))) hb67z inn)))), (RdX.more (Le.rdx (le39.trans ((Le.drew w87).trans hl40)) hz7) hz7.rd rfl (inc (Nat.le_refl _) hb3z (inc (Nat.le_trans hl1.size (Le.drew w1).size) hb63z (inc (Nat.le_trans hl1.size (Nat.le_trans (Le.drew w1).size (Nat.le_trans hl37.size (Nat.le_trans qle27.size (Nat.le_trans hq25.size (Le.drew w87).size))))) hb67z inn)))), (RdX.more (Le.rdx (le39.trans ((Le.drew w87).trans hl40)) hz8) hz8.rd rfl (inc (Nat.le_refl _) hb3z (inc (Nat.le_trans hl1.size (Le.drew w1).size) hb63z (inc (Nat.le_trans hl1.size (Nat.le_trans (Le.drew w1).size (Nat.le_trans hl37.size (Nat.le_trans qle27.size (Nat.le_trans hq25.size (Le.drew w87).size))))) hb67z inn)))), (RdX.more (Le.rdx (le39.trans ((Le.drew w87).trans hl40)) hz9) hz9.rd rfl (inc (Nat.le_refl _) hb3z (inc (Nat.le_trans hl1.size (Le.drew w1).size) hb63z (inc (Nat.le_trans hl1.size (Nat.le_trans (Le.drew w1).size (Nat.le_trans hl37.size (Nat.le_trans qle27.size (Nat.le_trans hq25.size (Le.drew w87).size))))) hb67z inn)))), (RdX.more (Le.rdx (le39.trans ((Le.drew w87).trans hl40)) hz10) hz10.rd rfl (inc (Nat.le_refl _) hb3z (inc (Nat.le_trans hl1.size (Le.drew w1).size) hb63z (inc (Nat.le_trans hl1.size (Nat.le_trans (Le.drew w1).size (Nat.le_trans hl37.size (Nat.le_trans qle27.size (Nat.le_trans hq25.size (Le.drew w87).size))))) hb67z inn))))⟩ : Cl ([b1, b23, b25] ++ S) w92 118 bw c) hok (List.mem_append_right _ hmw) (lt_app (lt_cons (Nat.lt_of_lt_of_le (bk_lt hb3) (Nat.le_trans (Le.drew w1).size (Nat.le_trans hl37.size (Nat.le_trans qle27.size (Nat.le_trans hq25.size (Nat.le_trans (Le.drew w87).size hl40.size)))))) (lt_cons (Nat.lt_of_lt_of_le (bk_lt hb63) (Nat.le_trans qle27.size (Nat.le_trans hq25.size (Nat.le_trans (Le.drew w87).size hl40.size)))) (lt_cons (Nat.lt_of_lt_of_le (bk_lt hb67) (Nat.le_refl _)) lt_nil))) (lt_le hS (Nat.le_trans hl1.size (Nat.le_trans (Le.drew w1).size (Nat.le_trans hl37.size (Nat.le_trans qle27.size (Nat.le_trans hq25.size (Nat.le_trans (Le.drew w87).size hl40.size)))))))) (rep := o.rep) (l := o.keys) (RdE.le (le39.trans ((Le.drew w87).trans hl40)) hk.rd) ho.k) ?_
        rintro _ w93 (⟨qne18, rfl, qle31⟩ | ⟨qeq18, qxk8, rfl, qle32, qo8⟩)
        ·
         refine ⟨((Le.drew w87).trans (hl40.trans qle31)), ?_⟩
         refine LP rfl rfl rfl (xmv rfl) ?_
         refine LP rfl rfl rfl (xext rfl rfl) ?_
         refine LP rfl rfl rfl (xext rfl rfl) ?_
         refine LUt rfl rfl (xsb sz36 (Le.bk qle31 hb67) rfl rfl (agg_cells _) rfl rfl (al_cons rfl (al_cons rfl (al_cons rfl (al_cons rfl (al_cons rfl (al_cons rfl (al_cons rfl (al_cons rfl (al_cons rfl (al_cons rfl al_nil))))))))))) ?_
         rintro w94 ⟨hq27, hb68⟩
         dsimp only [put] at hb68
         refine LP rfl rfl rfl (xas rfl) ?_
         refine LZ ?_
         refine F_seq ?_
         refine W_seq ?_
         refine W_reg (.pure 0 (.pure 1 (.pure 2 (.pure 3 (.one 4 (.one 5 (.one 6 (.pure 7 (.pure 8 .nil))))))))) rfl ?_
         refine LP rfl rfl rfl (xmv rfl) ?_
         refine LP rfl rfl rfl (xmv rfl) ?_
         refine LP rfl rfl rfl (xeql rfl rfl) ?_
         refine L_is 162 (v := .bool true) rfl (by simp) ?_
         refine LP rfl rfl rfl (xmv rfl) ?_
         have le43 : Le w87 w94 := (hq27.le ((Le.drew w87).trans (hl40.trans qle31)) (inc (Le.drew w87).size hb67z inn))
         refine LX rfl rfl rfl (xlb10 ag36 (Le.bk le43 hb64) rfl rfl rfl rfl rfl rfl rfl rfl rfl rfl rfl) trivial ?_
         refine LX rfl rfl rfl (xlb10 ag36 hb68 rfl rfl rfl rfl rfl rfl rfl rfl rfl rfl rfl) trivial ?_
         refine LF rfl rfl rfl has69 rfl (askSame (rep := 0) (least := 0) (q := false) (l := []) (t := ⟨0, 0, [], [], [], []⟩) (RdE.nil _ _) (RdE.nil _ _) (RdE.nil _ _) (RdE.nil _ _) (RdE.nil _ _) (RdE.nil _ _) (RdE.nil _ _) (RdE.nil _ _) (RdE.nil _ _) (RdE.nil _ _)) ?_
         rintro _ w95 ⟨rfl, hl41⟩
         refine ⟨trivial, ?_⟩
         refine LP rfl rfl rfl (xpk1 rfl rfl) ?_
         refine LP rfl rfl rfl (xas rfl) ?_
         refine LZ ?_
         refine F_seq ?_
         refine W_ret ?_
         refine F_ret_block ?_
         refine F_ret_then ?_
         have lx65 : Lx [bc, bw] w w87 := (hq25.drop (Lx.trans (Lx.trans (Lx.trans (Lx.trans (Lx.refl _ _) hl1.lx) (Le.drew w1).lx) hl37.lx) qle27.lx) (dr_new (Nat.le_trans hl1.size (Le.drew w1).size) hb63z dr_nil))
         have lx66 : Lx [bc, bw] w w94 := (hq27.drop (Lx.trans (Lx.trans (Lx.trans lx65 (Le.drew w87).lx) hl40.lx) qle31.lx) (dr_new (Nat.le_trans hl1.size (Nat.le_trans (Le.drew w1).size (Nat.le_trans hl37.size (Nat.le_trans qle27.size (Nat.le_trans hq25.size (Le.drew w87).size))))) hb67z dr_nil))
         have le44 : Le w w94 := (hq27.le (le39.trans ((Le.drew w87).trans (hl40.trans qle31))) (inc (Nat.le_trans hl1.size (Nat.le_trans (Le.drew w1).size (Nat.le_trans hl37.size (Nat.le_trans qle27.size (Nat.le_trans hq25.size (Le.drew w87).size))))) hb67z inn))
         exact F_end1 rfl rfl ⟨_, rfl, S, _, _, rfl, (Lx.trans lx66 hl41.lx).mono (ms_cons hmc (ms_cons hmw ms_nil)), ⟨(Le.bk (le44.trans hl41) hpP), (⟨_, _, _, _, _, (Le.bk (le44.trans hl41) hb1), (Le.rdx (le44.trans hl41) hz1), (Le.rdx (le44.trans hl41) hz2), (Le.rdx (le44.trans hl41) hz3), (Le.rdx (le44.trans hl41) hz4), (Le.rdx (le44.trans hl41) hz5)⟩ : Cl S w95 116 bc c), (⟨_, _, _, _, _, (Le.bk (le44.trans hl41) hb2), (Le.rdx (le44.trans hl41) hz6), (Le.rdx (le44.trans hl41) hz7), (Le.rdx (le44.trans hl41) hz8), (Le.rdx (le44.trans hl41) hz9), (Le.rdx (le44.trans hl41) hz10)⟩ : Cl S w95 118 bw c), hmp, hmc, hmw, hok, hlz, (lt_le hS (Nat.le_trans hl1.size (Nat.le_trans (Le.drew w1).size (Nat.le_trans hl37.size (Nat.le_trans qle27.size (Nat.le_trans hq25.size (Nat.le_trans (Le.drew w87).size (Nat.le_trans hl40.size (Nat.le_trans qle31.size (Nat.le_trans hq27.size hl41.size))))))))))⟩, fun i hi => .inl hi⟩
        ·
         exact absurd qeq18 qne16
      ·
       refine ⟨((Le.drew w1).trans (hl37.trans qle28)), ?_⟩
       refine LP rfl rfl rfl (xmv rfl) ?_
       refine LP rfl rfl rfl (xext rfl rfl) ?_
       refine LP rfl rfl rfl (xext rfl rfl) ?_
       refine LUt rfl rfl (xsb sz36 (Le.bk qle28 hb63) rfl rfl (agg_cells _) rfl rfl (al_cons rfl (al_cons rfl (al_cons rfl (al_cons rfl (al_cons rfl (al_cons rfl (al_cons rfl (al_cons rfl (al_cons qo6.rd.sh.one (al_cons rfl al_nil))))))))))) ?_
       rintro w96 ⟨hq28, hb69⟩
       dsimp only [put] at hb69
       have hk396 := hq28.ow (Off.cons (Ow.ne_new qo6 (Nat.lt_of_lt_of_le (bk_lt hb63) (Nat.le_refl _))) Off.nil) qo6
       refine LP rfl rfl rfl (xas rfl) ?_
       refine LZ ?_
       refine F_seq ?_
       refine W_seq ?_
       refine W_draw (.pure 0 (.pure 1 (.pure 2 (.still 3 (.pure 4 (.still 5 (.pure 6 (.still 7 (.two 8 12 (.pure 9 (.pure 10 (.pure 11 (.one 12 (.tail 13 (.pure 14 .nil)))))) (.one 8 (.pure 9 (.pure 10 (.pure 11 (.tail 13 (.pure 14 .nil))))))))))))))) (Le w96) hfol (by kernel_rfl) (pkt (pkb (pkt pkB))) (Le.drew _) ?_
       refine LP rfl rfl rfl (xmv rfl) ?_
       refine LP rfl rfl rfl (xnc rfl) ?_
       refine LP rfl rfl rfl (xfa fa48_1 rfl) ?_
       have le45 : Le w w96 := (hq28.le (hl1.trans ((Le.drew w1).trans (hl37.trans qle28))) (inc (Nat.le_trans hl1.size (Le.drew w1).size) hb63z inn))
       refine LS rfl rfl rfl (fun w' hw' => (xld sc31 rfl (cl_bk (Le.bk (le45.trans hw') hpP) rfl))) ?_
       refine LP rfl rfl rfl (xfa fa57_2 rfl) ?_
       have le46 : Le w1 w96 := (hq28.le ((Le.drew w1).trans (hl37.trans qle28)) (inc (Le.drew w1).size hb63z inn))
       refine LS rfl rfl rfl (fun w' hw' => (xld sc3 rfl (cl_bk (Le.bk (le46.trans hw') hb3) rfl))) ?_
       refine LP rfl rfl rfl (xfa fa57_5 rfl) ?_
       refine LS rfl rfl rfl (fun w' hw' => (xld sc24 rfl (cl_bk (Le.bk (le46.trans hw') hb3) rfl))) ?_
       refine L_two ?_ ?_
       ·
        refine LF rfl rfl rfl has73 rfl (r_query (S := ([b1, b23] ++ S)) (⟨_, _, _, _, _, (Le.bk (le45.trans (Le.drew w96)) hb2), (RdX.more (Le.rdx (le45.trans (Le.drew w96)) hz6) hz6.rd rfl (inc (Nat.le_refl _) hb3z (inc (Nat.le_trans hl1.size (Le.drew w1).size) hb63z inn))), (RdX.more (Le.rdx (le45.trans (Le.drew w96)) hz7) hz7.rd rfl (inc (Nat.le_refl _) hb3z (inc (Nat.le_trans hl1.size (Le.drew w1).size) hb63z inn))), (RdX.more (Le.rdx (le45.trans (Le.drew w96)) hz8) hz8.rd rfl (inc (Nat.le_refl _) hb3z (inc (Nat.le_trans hl1.size (Le.drew w1).size) hb63z inn))), (RdX.more (Le.rdx (le45.trans (Le.drew w96)) hz9) hz9.rd rfl (inc (Nat.le_refl _) hb3z (inc (Nat.le_trans hl1.size (Le.drew w1).size) hb63z inn))), (RdX.more (Le.rdx (le45.trans (Le.drew w96)) hz10) hz10.rd rfl (inc (Nat.le_refl _) hb3z (inc (Nat.le_trans hl1.size (Le.drew w1).size) hb63z inn)))⟩ : Cl ([b1, b23] ++ S) w96.drew 118 bw c) hok (List.mem_append_right _ hmw) (lt_app (lt_cons (Nat.lt_of_lt_of_le (bk_lt hb3) (Nat.le_trans (Le.drew w1).size (Nat.le_trans hl37.size (Nat.le_trans qle28.size (Nat.le_trans hq28.size (Le.drew w96).size))))) (lt_cons (Nat.lt_of_lt_of_le (bk_lt hb63) (Nat.le_trans qle28.size (Nat.le_trans hq28.size (Le.drew w96).size))) lt_nil)) (lt_le hS (Nat.le_trans hl1.size (Nat.le_trans (Le.drew w1).size (Nat.le_trans hl37.size (Nat.le_trans qle28.size (Nat.le_trans hq28.size (Le.drew w96).size))))))) (rep := o.rep) (l := o.keys) (RdE.le (le45.trans (Le.drew w96)) hk.rd) ho.k) ?_
        rintro _ w97 (⟨qne19, rfl, qle33⟩ | ⟨qeq19, qxk9, rfl, qle34, qo9⟩)
        ·
         exact absurd qeq16 qne19
        ·
         refine ⟨((Le.drew w96).trans qle34), ?_⟩
         refine LP rfl rfl rfl (xmv rfl) ?_
         refine LP rfl rfl rfl (xext rfl rfl) ?_
         refine LP rfl rfl rfl (xext rfl rfl) ?_
         refine LT rfl rfl rfl (xal zr36) ?_
         rintro _ w98 ⟨b26, rfl, hl42, hb70, hb70z⟩
         refine ⟨((Le.drew w96).trans (qle34.trans hl42)), ?_⟩
         refine LUt rfl rfl (xsb sz36 hb70 rfl rfl (agg_cells _) rfl rfl (al_cons rfl (al_cons rfl (al_cons rfl (al_cons rfl (al_cons rfl (al_cons rfl (al_cons rfl (al_cons rfl (al_cons qo9.rd.sh.one (al_cons rfl al_nil))))))))))) ?_
         rintro w99 ⟨hq29, hb71⟩
         dsimp only [put] at hb71
         refine LP rfl rfl rfl (xas rfl) ?_
         refine LZ ?_
         refine F_seq ?_
         refine W_seq ?_
         refine W_reg (.pure 0 (.pure 1 (.pure 2 (.pure 3 (.one 4 (.one 5 (.one 6 (.pure 7 (.pure 8 .nil))))))))) rfl ?_
         refine LP rfl rfl rfl (xmv rfl) ?_
         refine LP rfl rfl rfl (xmv rfl) ?_
         refine LP rfl rfl rfl (xeql rfl rfl) ?_
         refine L_is 162 (v := .bool true) rfl (by simp) ?_
         refine LP rfl rfl rfl (xmv rfl) ?_
         have le47 : Le w96 w99 := (hq29.le ((Le.drew w96).trans (qle34.trans hl42)) (inc (Nat.le_trans (Le.drew w96).size qle34.size) hb70z inn))
         refine LX rfl rfl rfl (xlb10 ag36 (Le.bk le47 hb69) rfl rfl rfl rfl rfl rfl rfl rfl rfl rfl rfl) trivial ?_
         refine LX rfl rfl rfl (xlb10 ag36 hb71 rfl rfl rfl rfl rfl rfl rfl rfl rfl rfl rfl) trivial ?_
         have le48 : Le w97 w99 := (hq29.le hl42 (inc (Nat.le_refl _) hb70z inn))
         refine LF rfl rfl rfl has69 rfl (askSame (rep := o.rep) (least := c.tok) (q := true) (l := (keysOf o.keys)) (t := ⟨0, 0, [], [], [], []⟩) (RdE.nil _ _) (RdE.nil _ _) (RdE.nil _ _) (RdE.nil _ _) (RdE.nil _ _) (RdE.nil _ _) (RdE.nil _ _) (RdE.nil _ _) (RdE.le le47 hk396.rd) (RdE.le le48 qo9.rd)) ?_
         rintro _ w100 ⟨rfl, hl43⟩
         refine ⟨trivial, ?_⟩
         refine LP rfl rfl rfl (xpk1 rfl rfl) ?_
         refine LP rfl rfl rfl (xas rfl) ?_
         refine LZ ?_
         refine F_seq ?_
         refine W_ret ?_
         refine F_ret_block ?_
         refine F_ret_then ?_
         have lx67 : Lx [bc, bw] w w96 := (hq28.drop (Lx.trans (Lx.trans (Lx.trans (Lx.trans (Lx.refl _ _) hl1.lx) (Le.drew w1).lx) hl37.lx) qle28.lx) (dr_new (Nat.le_trans hl1.size (Le.drew w1).size) hb63z dr_nil))
         have lx68 : Lx [bc, bw] w w99 := (hq29.drop (Lx.trans (Lx.trans (Lx.trans lx67 (Le.drew w96).lx) qle34.lx) hl42.lx) (dr_new (Nat.le_trans hl1.size (Nat.le_trans (Le.drew w1).size (Nat.le_trans hl37.size (Nat.le_trans qle28.size (Nat.le_trans hq28.size (Nat.le_trans (Le.drew w96).size qle34.size)))))) hb70z dr_nil))
         have le49 : Le w w99 := (hq29.le (le45.trans ((Le.drew w96).trans (qle34.trans hl42))) (inc (Nat.le_trans hl1.size (Nat.le_trans (Le.drew w1).size (Nat.le_trans hl37.size (Nat.le_trans qle28.size (Nat.le_trans hq28.size (Nat.le_trans (Le.drew w96).size qle34.size)))))) hb70z inn))
         exact F_end1 rfl rfl ⟨_, rfl, S, _, _, rfl, (Lx.trans lx68 hl43.lx).mono (ms_cons hmc (ms_cons hmw ms_nil)), ⟨(Le.bk (le49.trans hl43) hpP), (⟨_, _, _, _, _, (Le.bk (le49.trans hl43) hb1), (Le.rdx (le49.trans hl43) hz1), (Le.rdx (le49.trans hl43) hz2), (Le.rdx (le49.trans hl43) hz3), (Le.rdx (le49.trans hl43) hz4), (Le.rdx (le49.trans hl43) hz5)⟩ : Cl S w100 116 bc c), (⟨_, _, _, _, _, (Le.bk (le49.trans hl43) hb2), (Le.rdx (le49.trans hl43) hz6), (Le.rdx (le49.trans hl43) hz7), (Le.rdx (le49.trans hl43) hz8), (Le.rdx (le49.trans hl43) hz9), (Le.rdx (le49.trans hl43) hz10)⟩ : Cl S w100 118 bw c), hmp, hmc, hmw, hok, hlz, (lt_le hS (Nat.le_trans hl1.size (Nat.le_trans (Le.drew w1).size (Nat.le_trans hl37.size (Nat.le_trans qle28.size (Nat.le_trans hq28.size (Nat.le_trans (Le.drew w96).size (Nat.le_trans qle34.size (Nat.le_trans hl42.size (Nat.le_trans hq29.size hl43.size))))))))))⟩, fun i hi => .inl hi⟩
       ·
        refine LT rfl rfl rfl (xal zr36) ?_
        rintro _ w101 ⟨b27, rfl, hl44, hb72, hb72z⟩
        refine ⟨((Le.drew w96).trans hl44), ?_⟩
        refine LF rfl rfl rfl has73 rfl (r_query (S := ([b1, b23, b27] ++ S)) (⟨_, _, _, _, _, (Le.bk (le45.trans ((Le.drew w96).trans hl44)) hb2), (RdX.more (Le.rdx (le45.trans ((Le.drew w96).trans hl44)) hz6) hz6.rd rfl (inc (Nat.le_refl _) hb3z (inc (Nat.le_trans hl1.size (Le.drew w1).size) hb63z (inc (Nat.le_trans hl1.size (Nat.le_trans (Le.drew w1).size (Nat.le_trans hl37.size (Nat.le_trans qle28.size (Nat.le_trans hq28.size (Le.drew w96).size))))) hb72z inn)))), (RdX.more (Le.rdx (le45.trans ((Le.drew w96).trans hl44)) hz7) hz7.rd rfl (inc (Nat.le_refl _) hb3z (inc (Nat.le_trans hl1.size (Le.drew w1).size) hb63z (inc (Nat.le_trans hl1.size (Nat.le_trans (Le.drew w1).size (Nat.le_trans hl37.size (Nat.le_trans qle28.size (Nat.le_trans hq28.size (Le.drew w96).size))))) hb72z inn)))), (RdX.more (Le.rdx (le45.trans ((Le.drew w96).trans hl44)) hz8) hz8.rd rfl (inc (Nat.le_refl _) hb3z (inc (Nat.le_trans hl1.size (Le.drew w1).size) hb63z (inc (Nat.le_trans hl1.size (Nat.le_trans (Le.drew w1).size (Nat.le_trans hl37.size (Nat.le_trans qle28.size (Nat.le_trans hq28.size (Le.drew w96).size))))) hb72z inn)))), (RdX.more (Le.rdx (le45.trans ((Le.drew w96).trans hl44)) hz9) hz9.rd rfl (inc (Nat.le_refl _) hb3z (inc (Nat.le_trans hl1.size (Le.drew w1).size) hb63z (inc (Nat.le_trans hl1.size (Nat.le_trans (Le.drew w1).size (Nat.le_trans hl37.size (Nat.le_trans qle28.size (Nat.le_trans hq28.size (Le.drew w96).size))))) hb72z inn)))), (RdX.more (Le.rdx (le45.trans ((Le.drew w96).trans hl44)) hz10) hz10.rd rfl (inc (Nat.le_refl _) hb3z (inc (Nat.le_trans hl1.size (Le.drew w1).size) hb63z (inc (Nat.le_trans hl1.size (Nat.le_trans (Le.drew w1).size (Nat.le_trans hl37.size (Nat.le_trans qle28.size (Nat.le_trans hq28.size (Le.drew w96).size))))) hb72z inn))))⟩ : Cl ([b1, b23, b27] ++ S) w101 118 bw c) hok (List.mem_append_right _ hmw) (lt_app (lt_cons (Nat.lt_of_lt_of_le (bk_lt hb3) (Nat.le_trans (Le.drew w1).size (Nat.le_trans hl37.size (Nat.le_trans qle28.size (Nat.le_trans hq28.size (Nat.le_trans (Le.drew w96).size hl44.size)))))) (lt_cons (Nat.lt_of_lt_of_le (bk_lt hb63) (Nat.le_trans qle28.size (Nat.le_trans hq28.size (Nat.le_trans (Le.drew w96).size hl44.size)))) (lt_cons (Nat.lt_of_lt_of_le (bk_lt hb72) (Nat.le_refl _)) lt_nil))) (lt_le hS (Nat.le_trans hl1.size (Nat.le_trans (Le.drew w1).size (Nat.le_trans hl37.size (Nat.le_trans qle28.size (Nat.le_trans hq28.size (Nat.le_trans (Le.drew w96).size hl44.size)))))))) (rep := o.rep) (l := o.keys) (RdE.le (le45.trans ((Le.drew w96).trans hl44)) hk.rd) ho.k) ?_
        rintro _ w102 (⟨qne20, rfl, qle35⟩ | ⟨qeq20, qxk10, rfl, qle36, qo10⟩)
        ·
         exact absurd qeq16 qne20
        ·
         refine ⟨((Le.drew w96).trans (hl44.trans qle36)), ?_⟩
         refine LP rfl rfl rfl (xmv rfl) ?_
         refine LP rfl rfl rfl (xext rfl rfl) ?_
         refine LP rfl rfl rfl (xext rfl rfl) ?_
         refine LUt rfl rfl (xsb sz36 (Le.bk qle36 hb72) rfl rfl (agg_cells _) rfl rfl (al_cons rfl (al_cons rfl (al_cons rfl (al_cons rfl (al_cons rfl (al_cons rfl (al_cons rfl (al_cons rfl (al_cons qo10.rd.sh.one (al_cons rfl al_nil))))))))))) ?_
         rintro w103 ⟨hq30, hb73⟩
         dsimp only [put] at hb73
         have hk397 := hq30.ow (Off.cons (Ow.ne_new qo10 (Nat.lt_of_lt_of_le (bk_lt hb72) (Nat.le_refl _))) Off.nil) qo10
         refine LP rfl rfl rfl (xas rfl) ?_
         refine LZ ?_
         refine F_seq ?_
         refine W_seq ?_
         refine W_reg (.pure 0 (.pure 1 (.pure 2 (.pure 3 (.one 4 (.one 5 (.one 6 (.pure 7 (.pure 8 .nil))))))))) rfl ?_
         refine LP rfl rfl rfl (xmv rfl) ?_
         refine LP rfl rfl rfl (xmv rfl) ?_
         refine LP rfl rfl rfl (xeql rfl rfl) ?_
         refine L_is 162 (v := .bool true) rfl (by simp) ?_
         refine LP rfl rfl rfl (xmv rfl) ?_
         have le50 : Le w96 w103 := (hq30.le ((Le.drew w96).trans (hl44.trans qle36)) (inc (Le.drew w96).size hb72z inn))
         refine LX rfl rfl rfl (xlb10 ag36 (Le.bk le50 hb69) rfl rfl rfl rfl rfl rfl rfl rfl rfl rfl rfl) trivial ?_
         refine LX rfl rfl rfl (xlb10 ag36 hb73 rfl rfl rfl rfl rfl rfl rfl rfl rfl rfl rfl) trivial ?_
         refine LF rfl rfl rfl has69 rfl (askSame (rep := o.rep) (least := c.tok) (q := true) (l := (keysOf o.keys)) (t := ⟨0, 0, [], [], [], []⟩) (RdE.nil _ _) (RdE.nil _ _) (RdE.nil _ _) (RdE.nil _ _) (RdE.nil _ _) (RdE.nil _ _) (RdE.nil _ _) (RdE.nil _ _) (RdE.le le50 hk396.rd) hk397.rd) ?_
         rintro _ w104 ⟨rfl, hl45⟩
         refine ⟨trivial, ?_⟩
         refine LP rfl rfl rfl (xpk1 rfl rfl) ?_
         refine LP rfl rfl rfl (xas rfl) ?_
         refine LZ ?_
         refine F_seq ?_
         refine W_ret ?_
         refine F_ret_block ?_
         refine F_ret_then ?_
         have lx69 : Lx [bc, bw] w w96 := (hq28.drop (Lx.trans (Lx.trans (Lx.trans (Lx.trans (Lx.refl _ _) hl1.lx) (Le.drew w1).lx) hl37.lx) qle28.lx) (dr_new (Nat.le_trans hl1.size (Le.drew w1).size) hb63z dr_nil))
         have lx70 : Lx [bc, bw] w w103 := (hq30.drop (Lx.trans (Lx.trans (Lx.trans lx69 (Le.drew w96).lx) hl44.lx) qle36.lx) (dr_new (Nat.le_trans hl1.size (Nat.le_trans (Le.drew w1).size (Nat.le_trans hl37.size (Nat.le_trans qle28.size (Nat.le_trans hq28.size (Le.drew w96).size))))) hb72z dr_nil))
         have le51 : Le w w103 := (hq30.le (le45.trans ((Le.drew w96).trans (hl44.trans qle36))) (inc (Nat.le_trans hl1.size (Nat.le_trans (Le.drew w1).size (Nat.le_trans hl37.size (Nat.le_trans qle28.size (Nat.le_trans hq28.size (Le.drew w96).size))))) hb72z inn))
         exact F_end1 rfl rfl ⟨_, rfl, S, _, _, rfl, (Lx.trans lx70 hl45.lx).mono (ms_cons hmc (ms_cons hmw ms_nil)), ⟨(Le.bk (le51.trans hl45) hpP), (⟨_, _, _, _, _, (Le.bk (le51.trans hl45) hb1), (Le.rdx (le51.trans hl45) hz1), (Le.rdx (le51.trans hl45) hz2), (Le.rdx (le51.trans hl45) hz3), (Le.rdx (le51.trans hl45) hz4), (Le.rdx (le51.trans hl45) hz5)⟩ : Cl S w104 116 bc c), (⟨_, _, _, _, _, (Le.bk (le51.trans hl45) hb2), (Le.rdx (le51.trans hl45) hz6), (Le.rdx (le51.trans hl45) hz7), (Le.rdx (le51.trans hl45) hz8), (Le.rdx (le51.trans hl45) hz9), (Le.rdx (le51.trans hl45) hz10)⟩ : Cl S w104 118 bw c), hmp, hmc, hmw, hok, hlz, (lt_le hS (Nat.le_trans hl1.size (Nat.le_trans (Le.drew w1).size (Nat.le_trans hl37.size (Nat.le_trans qle28.size (Nat.le_trans hq28.size (Nat.le_trans (Le.drew w96).size (Nat.le_trans hl44.size (Nat.le_trans qle36.size (Nat.le_trans hq30.size hl45.size))))))))))⟩, fun i hi => .inl hi⟩
    · -- c5 no
     replace c5 := of_decide_eq_false c5
     refine W_seq ?_
     refine W_reg (.pure 0 (.pure 1 .nil)) rfl ?_
     refine LP rfl rfl rfl (xeql rfl rfl) ?_
     refine LP rfl rfl rfl (xas rfl) ?_
     refine LZ ?_
     refine F_seq ?_
     refine W_cond rfl (fun c6 => ?_) (fun c6 => ?_)
     · -- c6 yes
      replace c6 := of_decide_eq_true c6
      refine W_seq ?_
      refine W_draw (.pure 0 (.pure 1 (.pure 2 (.still 3 (.pure 4 (.still 5 (.pure 7 (.pure 8 (.pure 9 (.still 10 (.pure 11 (.still 12 (.one 6 (.one 13 (.pure 14 (.pure 15 .nil)))))))))))))))) (Lx [bc, bw] w1) hfol (by kernel_rfl) (pkt (pkb (pkt pkB))) (Le.drew _).lx ?_
      refine LP rfl rfl rfl (xmv rfl) ?_
      refine LP rfl rfl rfl (xnc rfl) ?_
      refine LP rfl rfl rfl (xfa fa48_0 rfl) ?_
      refine LS rfl rfl rfl (fun w' hw' => (xld sc27 rfl (cl_bk (hw'.bk (ni_ne n1 (ni_ne n2 ni_nil)) (Le.bk hl1 hpP)) rfl))) ?_
      refine LP rfl rfl rfl (xfa fa57_6 rfl) ?_
      refine LS rfl rfl rfl (fun w' hw' => (xlb3 ag55 (hw'.bk (ni_new hb3z (Nat.lt_of_lt_of_le (bk_lt hb1) (Nat.le_refl _)) (ni_new hb3z (Nat.lt_of_lt_of_le (bk_lt hb2) (Nat.le_refl _)) ni_nil)) hb3) rfl rfl rfl rfl)) ?_
      refine LP rfl rfl rfl (xmv rfl) ?_
      refine LP rfl rfl rfl (xnc rfl) ?_
      refine LP rfl rfl rfl (xfa fa48_1 rfl) ?_
      refine LS rfl rfl rfl (fun w' hw' => (xld sc31 rfl (cl_bk (hw'.bk (ni_ne n1 (ni_ne n2 ni_nil)) (Le.bk hl1 hpP)) rfl))) ?_
      refine LP rfl rfl rfl (xfa fa57_6 rfl) ?_
      refine LS rfl rfl rfl (fun w' hw' => (xlb3 ag55 (hw'.bk (ni_new hb3z (Nat.lt_of_lt_of_le (bk_lt hb1) (Nat.le_refl _)) (ni_new hb3z (Nat.lt_of_lt_of_le (bk_lt hb2) (Nat.le_refl _)) ni_nil)) hb3) rfl rfl rfl rfl)) ?_
      refine LF rfl rfl rfl has74 rfl (c_found (S := ([b1] ++ S)) (⟨_, _, _, _, _, (Le.bk (hl1.trans (Le.drew w1)) hb1), (RdX.more (Le.rdx (hl1.trans (Le.drew w1)) hz1) hz1.rd rfl (inc (Nat.le_refl _) hb3z inn)), (RdX.more (Le.rdx (hl1.trans (Le.drew w1)) hz2) hz2.rd rfl (inc (Nat.le_refl _) hb3z inn)), (RdX.more (Le.rdx (hl1.trans (Le.drew w1)) hz3) hz3.rd rfl (inc (Nat.le_refl _) hb3z inn)), (RdX.more (Le.rdx (hl1.trans (Le.drew w1)) hz4) hz4.rd rfl (inc (Nat.le_refl _) hb3z inn)), (RdX.more (Le.rdx (hl1.trans (Le.drew w1)) hz5) hz5.rd rfl (inc (Nat.le_refl _) hb3z inn))⟩ : Cl ([b1] ++ S) w1.drew 116 bc c) hok (List.mem_append_right _ hmc) (lt_app (lt_cons (Nat.lt_of_lt_of_le (bk_lt hb3) (Le.drew w1).size) lt_nil) (lt_le hS (Nat.le_trans hl1.size (Le.drew w1).size))) (fe := o.fe) (fi := o.fi) (RdE.le (hl1.trans (Le.drew w1)) hp.rd)) ?_
      rintro _ w105 (⟨qne21, rfl, qle37⟩ | ⟨qeq21, rfl, qlx23, qcl23⟩)
      ·
       refine ⟨(Lx.trans (Lx.trans (Lx.refl _ _) (Le.drew w1).lx) qle37.lx), ?_⟩
       refine LF rfl rfl rfl has75 rfl (r_found (S := ([b1] ++ S)) (⟨_, _, _, _, _, (Le.bk (hl1.trans ((Le.drew w1).trans qle37)) hb2), (RdX.more (Le.rdx (hl1.trans ((Le.drew w1).trans qle37)) hz6) hz6.rd rfl (inc (Nat.le_refl _) hb3z inn)), (RdX.more (Le.rdx (hl1.trans ((Le.drew w1).trans qle37)) hz7) hz7.rd rfl (inc (Nat.le_refl _) hb3z inn)), (RdX.more (Le.rdx (hl1.trans ((Le.drew w1).trans qle37)) hz8) hz8.rd rfl (inc (Nat.le_refl _) hb3z inn)), (RdX.more (Le.rdx (hl1.trans ((Le.drew w1).trans qle37)) hz9) hz9.rd rfl (inc (Nat.le_refl _) hb3z inn)), (RdX.more (Le.rdx (hl1.trans ((Le.drew w1).trans qle37)) hz10) hz10.rd rfl (inc (Nat.le_refl _) hb3z inn))⟩ : Cl ([b1] ++ S) w105 118 bw c) hok (List.mem_append_right _ hmw) (lt_app (lt_cons (Nat.lt_of_lt_of_le (bk_lt hb3) (Nat.le_trans (Le.drew w1).size qle37.size)) lt_nil) (lt_le hS (Nat.le_trans hl1.size (Nat.le_trans (Le.drew w1).size qle37.size)))) (fe := o.fe) (fi := o.fi) (RdE.le (hl1.trans ((Le.drew w1).trans qle37)) hp.rd)) ?_
       rintro _ w106 (⟨qne22, rfl, qle38⟩ | ⟨qeq22, rfl, qlx24, qcl24⟩)
       ·
        refine ⟨(Lx.trans (Lx.trans (Lx.trans (Lx.refl _ _) (Le.drew w1).lx) qle37.lx) qle38.lx), ?_⟩
        refine LP rfl rfl rfl (xeql rfl rfl) ?_
        refine L_is 184 (v := .bool true) rfl (by simp) ?_
        refine LP rfl rfl rfl (xas rfl) ?_
        refine LZ ?_
        refine F_seq ?_
        refine W_ret ?_
        refine F_ret_block ?_
        refine F_ret_then ?_
        exact F_end1 rfl rfl ⟨_, rfl, S, _, _, rfl, (Lx.trans (Lx.trans (Lx.trans (Lx.trans (Lx.refl _ _) hl1.lx) (Le.drew w1).lx) qle37.lx) qle38.lx).mono (ms_cons hmc (ms_cons hmw ms_nil)), ⟨(Le.bk (hl1.trans ((Le.drew w1).trans (qle37.trans qle38))) hpP), (⟨_, _, _, _, _, (Le.bk (hl1.trans ((Le.drew w1).trans (qle37.trans qle38))) hb1), (Le.rdx (hl1.trans ((Le.drew w1).trans (qle37.trans qle38))) hz1), (Le.rdx (hl1.trans ((Le.drew w1).trans (qle37.trans qle38))) hz2), (Le.rdx (hl1.trans ((Le.drew w1).trans (qle37.trans qle38))) hz3), (Le.rdx (hl1.trans ((Le.drew w1).trans (qle37.trans qle38))) hz4), (Le.rdx (hl1.trans ((Le.drew w1).trans (qle37.trans qle38))) hz5)⟩ : Cl S w106 116 bc c), (⟨_, _, _, _, _, (Le.bk (hl1.trans ((Le.drew w1).trans (qle37.trans qle38))) hb2), (Le.rdx (hl1.trans ((Le.drew w1).trans (qle37.trans qle38))) hz6), (Le.rdx (hl1.trans ((Le.drew w1).trans (qle37.trans qle38))) hz7), (Le.rdx (hl1.trans ((Le.drew w1).trans (qle37.trans qle38))) hz8), (Le.rdx (hl1.trans ((Le.drew w1).trans (qle37.trans qle38))) hz9), (Le.rdx (hl1.trans ((Le.drew w1).trans (qle37.trans qle38))) hz10)⟩ : Cl S w106 118 bw c), hmp, hmc, hmw, hok, hlz, (lt_le hS (Nat.le_trans hl1.size (Nat.le_trans (Le.drew w1).size (Nat.le_trans qle37.size qle38.size))))⟩, fun i hi => .inl hi⟩
       ·
        exact absurd qeq22 qne21
      ·
       have hk398 := qlx23.bk (ni_ne n1 ni_nil) (Le.bk (hl1.trans (Le.drew w1)) hpP)
       have hk399 := Lx.rdx2 qlx23 hz1.rd rfl (dr_in hmc dr_nil) (Le.rdx (hl1.trans (Le.drew w1)) hz1)
       have hk400 := Lx.rdx2 qlx23 hz2.rd rfl (dr_in hmc dr_nil) (Le.rdx (hl1.trans (Le.drew w1)) hz2)
       have hk401 := Lx.rdx2 qlx23 hz3.rd rfl (dr_in hmc dr_nil) (Le.rdx (hl1.trans (Le.drew w1)) hz3)
       have hk402 := Lx.rdx2 qlx23 hz4.rd rfl (dr_in hmc dr_nil) (Le.rdx (hl1.trans (Le.drew w1)) hz4)
       have hk403 := Lx.rdx2 qlx23 hz5.rd rfl (dr_in hmc dr_nil) (Le.rdx (hl1.trans (Le.drew w1)) hz5)
       have hk404 := qlx23.bk (ni_ne (Ne.symm n3) ni_nil) (Le.bk (hl1.trans (Le.drew w1)) hb2)
       have hk405 := Lx.rdx2 qlx23 hz6.rd rfl (dr_in hmc dr_nil) (Le.rdx (hl1.trans (Le.drew w1)) hz6)
       have hk406 := Lx.rdx2 qlx23 hz7.rd rfl (dr_in hmc dr_nil) (Le.rdx (hl1.trans (Le.drew w1)) hz7)
       have hk407 := Lx.rdx2 qlx23 hz8.rd rfl (dr_in hmc dr_nil) (Le.rdx (hl1.trans (Le.drew w1)) hz8)
       have hk408 := Lx.rdx2 qlx23 hz9.rd rfl (dr_in hmc dr_nil) (Le.rdx (hl1.trans (Le.drew w1)) hz9)
       have hk409 := Lx.rdx2 qlx23 hz10.rd rfl (dr_in hmc dr_nil) (Le.rdx (hl1.trans (Le.drew w1)) hz10)
       have hk410 := Lx.rdx2 qlx23 htc.rd rfl (dr_in hmc dr_nil) (Le.rdx (hl1.trans (Le.drew w1)) htc)
       have hk411 := Lx.rdx2 qlx23 hta.rd rfl (dr_in hmc dr_nil) (Le.rdx (hl1.trans (Le.drew w1)) hta)
       have hk412 := Lx.rdx2 qlx23 htr.rd rfl (dr_in hmc dr_nil) (Le.rdx (hl1.trans (Le.drew w1)) htr)
       have hk413 := Lx.rdx2 qlx23 htw.rd rfl (dr_in hmc dr_nil) (Le.rdx (hl1.trans (Le.drew w1)) htw)
       have hk414 := Lx.rdx2 qlx23 hx.rd rfl (dr_in hmc dr_nil) (Le.rdx (hl1.trans (Le.drew w1)) hx)
       have hk415 := Lx.rdx2 qlx23 hk.rd rfl (dr_in hmc dr_nil) (Le.rdx (hl1.trans (Le.drew w1)) hk)
       have hk416 := Lx.rdx2 qlx23 hp.rd rfl (dr_in hmc dr_nil) (Le.rdx (hl1.trans (Le.drew w1)) hp)
       have hk417 := qlx23.bk (ni_new hb3z (Nat.lt_of_lt_of_le (bk_lt hb1) (Nat.le_refl _)) ni_nil) (Le.bk (Le.drew w1) hb3)
       obtain ⟨z81, z82, z83, z84, z85, hb74, hz81, hz82, hz83, hz84, hz85⟩ := qcl23
       have lx71 : Lx [bc, bw] w1 w105 := (qlx23.drop (Lx.trans (Lx.refl _ _) (Le.drew w1).lx) (dr_in (by simp) dr_nil))
       refine ⟨lx71, ?_⟩
       refine LF rfl rfl rfl has75 rfl (r_found (S := ([b1] ++ S)) (⟨_, _, _, _, _, hk404, (RdX.more hk405 hz6.rd rfl (inc (Nat.le_refl _) hb3z inn)), (RdX.more hk406 hz7.rd rfl (inc (Nat.le_refl _) hb3z inn)), (RdX.more hk407 hz8.rd rfl (inc (Nat.le_refl _) hb3z inn)), (RdX.more hk408 hz9.rd rfl (inc (Nat.le_refl _) hb3z inn)), (RdX.more hk409 hz10.rd rfl (inc (Nat.le_refl _) hb3z inn))⟩ : Cl ([b1] ++ S) w105 118 bw c) hok (List.mem_append_right _ hmw) (lt_app (lt_cons (Nat.lt_of_lt_of_le (bk_lt hb3) (Nat.le_trans (Le.drew w1).size qlx23.size)) lt_nil) (lt_le hS (Nat.le_trans hl1.size (Nat.le_trans (Le.drew w1).size qlx23.size)))) (fe := o.fe) (fi := o.fi) hk416.rd) ?_
       rintro _ w107 (⟨qne23, rfl, qle39⟩ | ⟨qeq23, rfl, qlx25, qcl25⟩)
       ·
        exact absurd qeq21 qne23
       ·
        have hk418 := qlx25.bk (ni_ne n2 ni_nil) hk398
        have hk419 := qlx25.bk (ni_ne n3 ni_nil) hb74
        have hk420 := Lx.rdx2 qlx25 hz81.rd rfl (dr_in (List.mem_append_right _ hmw) dr_nil) hz81
        have hk421 := Lx.rdx2 qlx25 hz82.rd rfl (dr_in (List.mem_append_right _ hmw) dr_nil) hz82
        have hk422 := Lx.rdx2 qlx25 hz83.rd rfl (dr_in (List.mem_append_right _ hmw) dr_nil) hz83
        have hk423 := Lx.rdx2 qlx25 hz84.rd rfl (dr_in (List.mem_append_right _ hmw) dr_nil) hz84
        have hk424 := Lx.rdx2 qlx25 hz85.rd rfl (dr_in (List.mem_append_right _ hmw) dr_nil) hz85
        have hk425 := Lx.rdx2 qlx25 hz6.rd rfl (dr_in hmw dr_nil) hk405
        have hk426 := Lx.rdx2 qlx25 hz7.rd rfl (dr_in hmw dr_nil) hk406
        have hk427 := Lx.rdx2 qlx25 hz8.rd rfl (dr_in hmw dr_nil) hk407
        have hk428 := Lx.rdx2 qlx25 hz9.rd rfl (dr_in hmw dr_nil) hk408
        have hk429 := Lx.rdx2 qlx25 hz10.rd rfl (dr_in hmw dr_nil) hk409
        have hk430 := Lx.rdx2 qlx25 htc.rd rfl (dr_in hmw dr_nil) hk410
        have hk431 := Lx.rdx2 qlx25 hta.rd rfl (dr_in hmw dr_nil) hk411
        have hk432 := Lx.rdx2 qlx25 htr.rd rfl (dr_in hmw dr_nil) hk412
        have hk433 := Lx.rdx2 qlx25 htw.rd rfl (dr_in hmw dr_nil) hk413
        have hk434 := Lx.rdx2 qlx25 hx.rd rfl (dr_in hmw dr_nil) hk414
        have hk435 := Lx.rdx2 qlx25 hk.rd rfl (dr_in hmw dr_nil) hk415
        have hk436 := Lx.rdx2 qlx25 hp.rd rfl (dr_in hmw dr_nil) hk416
        have hk437 := qlx25.bk (ni_new hb3z (Nat.lt_of_lt_of_le (bk_lt hb2) (Nat.le_refl _)) ni_nil) hk417
        obtain ⟨z86, z87, z88, z89, z90, hb75, hz86, hz87, hz88, hz89, hz90⟩ := qcl25
        have lx72 : Lx [bc, bw] w1 w105 := (qlx23.drop (Lx.trans (Lx.refl _ _) (Le.drew w1).lx) (dr_in (by simp) dr_nil))
        have lx73 : Lx [bc, bw] w1 w107 := (qlx25.drop lx72 (dr_in (by simp) dr_nil))
        refine ⟨lx73, ?_⟩
        refine LP rfl rfl rfl (xeql rfl rfl) ?_
        refine L_is 184 (v := .bool true) rfl (by simp) ?_
        refine LP rfl rfl rfl (xas rfl) ?_
        refine LZ ?_
        refine F_seq ?_
        refine W_ret ?_
        refine F_ret_block ?_
        refine F_ret_then ?_
        have lx74 : Lx [bc, bw] w w105 := (qlx23.drop (Lx.trans (Lx.trans (Lx.refl _ _) hl1.lx) (Le.drew w1).lx) (dr_in (by simp) dr_nil))
        have lx75 : Lx [bc, bw] w w107 := (qlx25.drop lx74 (dr_in (by simp) dr_nil))
        exact F_end1 rfl rfl ⟨_, rfl, S, _, _, rfl, lx75.mono (ms_cons hmc (ms_cons hmw ms_nil)), ⟨hk418, (⟨_, _, _, _, _, hk419, (hk420.less fun i hi => List.mem_append_right _ hi), (hk421.less fun i hi => List.mem_append_right _ hi), (hk422.less fun i hi => List.mem_append_right _ hi), (hk423.less fun i hi => List.mem_append_right _ hi), (hk424.less fun i hi => List.mem_append_right _ hi)⟩ : Cl S w107 116 bc (foundC c o.fi)), (⟨_, _, _, _, _, hb75, (hz86.less fun i hi => List.mem_append_right _ hi), (hz87.less fun i hi => List.mem_append_right _ hi), (hz88.less fun i hi => List.mem_append_right _ hi), (hz89.less fun i hi => List.mem_append_right _ hi), (hz90.less fun i hi => List.mem_append_right _ hi)⟩ : Cl S w107 118 bw (foundC c o.fi)), hmp, hmc, hmw, (foundC_ok hok), hlz, (lt_le hS (Nat.le_trans hl1.size (Nat.le_trans (Le.drew w1).size (Nat.le_trans qlx23.size qlx25.size))))⟩, fun i hi => .inl hi⟩
     · -- c6 no
      replace c6 := of_decide_eq_false c6
      refine W_seq ?_
      refine W_reg (.pure 0 (.pure 1 .nil)) rfl ?_
      refine LP rfl rfl rfl (xeql rfl rfl) ?_
      refine LP rfl rfl rfl (xas rfl) ?_
      refine LZ ?_
      refine F_seq ?_
      refine W_cond rfl (fun c7 => ?_) (fun c7 => ?_)
      · -- c7 yes
       replace c7 := of_decide_eq_true c7
       refine W_seq ?_
       refine W_reg (.pure 0 (.pure 1 (.pure 2 (.one 3 (.one 4 (.pure 5 .nil)))))) rfl ?_
       refine LP rfl rfl rfl (xmv rfl) ?_
       refine LP rfl rfl rfl (xnc rfl) ?_
       refine LP rfl rfl rfl (xfa fa48_0 rfl) ?_
       refine LX rfl rfl rfl (xld sc27 rfl (cl_bk (Le.bk hl1 hpP) rfl)) trivial ?_
       refine LF rfl rfl rfl has76 rfl (c_cloneS (S := ([b1] ++ S)) (⟨_, _, _, _, _, (Le.bk hl1 hb1), (RdX.more (Le.rdx hl1 hz1) hz1.rd rfl (inc (Nat.le_refl _) hb3z inn)), (RdX.more (Le.rdx hl1 hz2) hz2.rd rfl (inc (Nat.le_refl _) hb3z inn)), (RdX.more (Le.rdx hl1 hz3) hz3.rd rfl (inc (Nat.le_refl _) hb3z inn)), (RdX.more (Le.rdx hl1 hz4) hz4.rd rfl (inc (Nat.le_refl _) hb3z inn)), (RdX.more (Le.rdx hl1 hz5) hz5.rd rfl (inc (Nat.le_refl _) hb3z inn))⟩ : Cl ([b1] ++ S) w1 116 bc c) hok (List.mem_append_right _ hmc) (lt_app (lt_cons (Nat.lt_of_lt_of_le (bk_lt hb3) (Nat.le_refl _)) lt_nil) (lt_le hS hl1.size)) ) ?_
       rintro _ w108 ⟨qb1, qwm1, rfl, qle40, qz1, ql21, qcl26⟩
       obtain ⟨z91, z92, z93, z94, z95, hb76, hz91, hz92, hz93, hz94, hz95⟩ := (show Cl ([qb1, b1] ++ S) w108 116 qb1 c from qcl26)
       refine ⟨trivial, ?_⟩
       refine LP rfl rfl rfl (xas rfl) ?_
       refine LZ ?_
       refine F_seq ?_
       refine W_seq ?_
       refine W_seq ?_
       refine W_reg (.pure 0 (.pure 1 .nil)) rfl ?_
       refine LP rfl rfl rfl (xmv rfl) ?_
       refine LP rfl rfl rfl (xpn pt27 rfl rfl) ?_
       refine LZ ?_
       refine F_seq ?_
       refine W_else rfl ?_
       refine W_skip ?_
       refine F_seq ?_
       refine W_seq ?_
       refine W_draw (.pure 0 (.pure 1 (.pure 2 (.still 3 (.pure 4 (.pure 5 (.pure 6 (.still 7 (.pure 8 (.pure 9 (.still 10 (.pure 11 (.pure 12 (.pure 13 (.still 14 (.pure 15 (.pure 16 (.still 17 (.pure 18 (.pure 19 (.one 20 .nil))))))))))))))))))))) (Lx [bc] w108) hfol (by kernel_rfl) (pkt (pkb (pkt pkB))) (Le.drew _).lx ?_
       refine LP rfl rfl rfl (xmv rfl) ?_
       refine LP rfl rfl rfl (xnc rfl) ?_
       refine LP rfl rfl rfl (xfa fa48_0 rfl) ?_
       refine LS rfl rfl rfl (fun w' hw' => (xld sc27 rfl (cl_bk (hw'.bk (ni_ne n1 ni_nil) (Le.bk (hl1.trans (qle40.trans ql21)) hpP)) rfl))) ?_
       refine LP rfl rfl rfl (xmv rfl) ?_
       refine LP rfl rfl rfl (xnc rfl) ?_
       refine LP rfl rfl rfl (xfa fa48_1 rfl) ?_
       refine LS rfl rfl rfl (fun w' hw' => (xld sc31 rfl (cl_bk (hw'.bk (ni_ne n1 ni_nil) (Le.bk (hl1.trans (qle40.trans ql21)) hpP)) rfl))) ?_
       refine LP rfl rfl rfl (xnc rfl) ?_
       refine LP rfl rfl rfl (xfa fa118_0 rfl) ?_
       refine LS rfl rfl rfl (fun w' hw' => (xld sc2 rfl (cl_bk (hw'.bk (ni_ne (Ne.symm n3) ni_nil) (Le.bk (hl1.trans (qle40.trans ql21)) hb2)) rfl))) ?_
       refine LP rfl rfl rfl (xmv rfl) ?_
       refine LP rfl rfl rfl (xnc rfl) ?_
       refine LP rfl rfl rfl (xfa fa48_1 rfl) ?_
       refine LS rfl rfl rfl (fun w' hw' => (xld sc31 rfl (cl_bk (hw'.bk (ni_ne n1 ni_nil) (Le.bk (hl1.trans (qle40.trans ql21)) hpP)) rfl))) ?_
       refine LP rfl rfl rfl (xnc rfl) ?_
       refine LP rfl rfl rfl (xfa fa118_2 rfl) ?_
       refine LS rfl rfl rfl (fun w' hw' => (xld sc2 rfl (cl_bk (hw'.bk (ni_ne (Ne.symm n3) ni_nil) (Le.bk (hl1.trans (qle40.trans ql21)) hb2)) rfl))) ?_
       refine LP rfl rfl rfl (xbd rfl (bd50_2i (99 : Int))) ?_
       refine LP rfl rfl rfl (xbd rfl (bd52_0iiisii_1iiisii_2iiisii c.se c.rq 0 _ _ _ (99 : Int) 0)) ?_
       refine LF rfl rfl rfl has58 rfl (c_answer (S := ([b1] ++ S)) (⟨_, _, _, _, _, (Le.bk (hl1.trans (qle40.trans (ql21.trans (Le.drew w108)))) hb1), (RdX.more (Le.rdx (hl1.trans (qle40.trans (ql21.trans (Le.drew w108)))) hz1) hz1.rd rfl (inc (Nat.le_refl _) hb3z inn)), (RdX.more (Le.rdx (hl1.trans (qle40.trans (ql21.trans (Le.drew w108)))) hz2) hz2.rd rfl (inc (Nat.le_refl _) hb3z inn)), (RdX.more (Le.rdx (hl1.trans (qle40.trans (ql21.trans (Le.drew w108)))) hz3) hz3.rd rfl (inc (Nat.le_refl _) hb3z inn)), (RdX.more (Le.rdx (hl1.trans (qle40.trans (ql21.trans (Le.drew w108)))) hz4) hz4.rd rfl (inc (Nat.le_refl _) hb3z inn)), (RdX.more (Le.rdx (hl1.trans (qle40.trans (ql21.trans (Le.drew w108)))) hz5) hz5.rd rfl (inc (Nat.le_refl _) hb3z inn))⟩ : Cl ([b1] ++ S) w108.drew 116 bc c) hok (List.mem_append_right _ hmc) (lt_app (lt_cons (Nat.lt_of_lt_of_le (bk_lt hb3) (Nat.le_trans qle40.size (Nat.le_trans ql21.size (Le.drew w108).size))) lt_nil) (lt_le hS (Nat.le_trans hl1.size (Nat.le_trans qle40.size (Nat.le_trans ql21.size (Le.drew w108).size))))) (a := ⟨c.se, c.rq, ⟨0, [], (99 : Int), 0⟩⟩) (RdX.nil _ _ _) (by first | omega | (simp only [List.length_append, List.length_take, List.length_drop, List.length_cons, List.length_nil]; omega))) ?_
       rintro _ w109 (⟨qf19, rfl, qle41⟩ | ⟨qf20, rfl, qlx26, qcl27⟩)
       ·
        refine ⟨(Lx.trans (Lx.trans (Lx.refl _ _) (Le.drew w108).lx) qle41.lx), ?_⟩
        refine LZ ?_
        refine F_seq ?_
        refine W_reg (.pure 0 (.pure 1 (.pure 2 (.pure 3 (.one 4 .nil))))) rfl ?_
        refine LP rfl rfl rfl (xmv rfl) ?_
        refine LP rfl rfl rfl (xmv rfl) ?_
        refine LP rfl rfl rfl (xnc rfl) ?_
        refine LP rfl rfl rfl (xfa fa48_0 rfl) ?_
        refine LU rfl rfl (xsb sz27 (Le.bk (hl1.trans (qle40.trans (ql21.trans ((Le.drew w108).trans qle41)))) hpP) rfl rfl (ptr_cells _) rfl rfl (al_cons rfl al_nil)) ?_
        rintro w110 ⟨hq31, hb77⟩
        dsimp only [put] at hb77
        have hk438 := hq31.bk (ni_ne (Ne.symm n1) ni_nil) (Le.bk (hl1.trans (qle40.trans (ql21.trans ((Le.drew w108).trans qle41)))) hb1)
        have hk439 := Lx.rdx2 hq31 hz1.rd rfl (dr_in hmp dr_nil) (Le.rdx (hl1.trans (qle40.trans (ql21.trans ((Le.drew w108).trans qle41)))) hz1)
        have hk440 := Lx.rdx2 hq31 hz2.rd rfl (dr_in hmp dr_nil) (Le.rdx (hl1.trans (qle40.trans (ql21.trans ((Le.drew w108).trans qle41)))) hz2)
        have hk441 := Lx.rdx2 hq31 hz3.rd rfl (dr_in hmp dr_nil) (Le.rdx (hl1.trans (qle40.trans (ql21.trans ((Le.drew w108).trans qle41)))) hz3)
        have hk442 := Lx.rdx2 hq31 hz4.rd rfl (dr_in hmp dr_nil) (Le.rdx (hl1.trans (qle40.trans (ql21.trans ((Le.drew w108).trans qle41)))) hz4)
        have hk443 := Lx.rdx2 hq31 hz5.rd rfl (dr_in hmp dr_nil) (Le.rdx (hl1.trans (qle40.trans (ql21.trans ((Le.drew w108).trans qle41)))) hz5)
        have hk444 := hq31.bk (ni_ne (Ne.symm n2) ni_nil) (Le.bk (hl1.trans (qle40.trans (ql21.trans ((Le.drew w108).trans qle41)))) hb2)
        have hk445 := Lx.rdx2 hq31 hz6.rd rfl (dr_in hmp dr_nil) (Le.rdx (hl1.trans (qle40.trans (ql21.trans ((Le.drew w108).trans qle41)))) hz6)
        have hk446 := Lx.rdx2 hq31 hz7.rd rfl (dr_in hmp dr_nil) (Le.rdx (hl1.trans (qle40.trans (ql21.trans ((Le.drew w108).trans qle41)))) hz7)
        have hk447 := Lx.rdx2 hq31 hz8.rd rfl (dr_in hmp dr_nil) (Le.rdx (hl1.trans (qle40.trans (ql21.trans ((Le.drew w108).trans qle41)))) hz8)
        have hk448 := Lx.rdx2 hq31 hz9.rd rfl (dr_in hmp dr_nil) (Le.rdx (hl1.trans (qle40.trans (ql21.trans ((Le.drew w108).trans qle41)))) hz9)
        have hk449 := Lx.rdx2 hq31 hz10.rd rfl (dr_in hmp dr_nil) (Le.rdx (hl1.trans (qle40.trans (ql21.trans ((Le.drew w108).trans qle41)))) hz10)
        have hk450 := Lx.rdx2 hq31 htc.rd rfl (dr_in hmp dr_nil) (Le.rdx (hl1.trans (qle40.trans (ql21.trans ((Le.drew w108).trans qle41)))) htc)
        have hk451 := Lx.rdx2 hq31 hta.rd rfl (dr_in hmp dr_nil) (Le.rdx (hl1.trans (qle40.trans (ql21.trans ((Le.drew w108).trans qle41)))) hta)
        have hk452 := Lx.rdx2 hq31 htr.rd rfl (dr_in hmp dr_nil) (Le.rdx (hl1.trans (qle40.trans (ql21.trans ((Le.drew w108).trans qle41)))) htr)
        have hk453 := Lx.rdx2 hq31 htw.rd rfl (dr_in hmp dr_nil) (Le.rdx (hl1.trans (qle40.trans (ql21.trans ((Le.drew w108).trans qle41)))) htw)
        have hk454 := Lx.rdx2 hq31 hx.rd rfl (dr_in hmp dr_nil) (Le.rdx (hl1.trans (qle40.trans (ql21.trans ((Le.drew w108).trans qle41)))) hx)
        have hk455 := Lx.rdx2 hq31 hk.rd rfl (dr_in hmp dr_nil) (Le.rdx (hl1.trans (qle40.trans (ql21.trans ((Le.drew w108).trans qle41)))) hk)
        have hk456 := Lx.rdx2 hq31 hp.rd rfl (dr_in hmp dr_nil) (Le.rdx (hl1.trans (qle40.trans (ql21.trans ((Le.drew w108).trans qle41)))) hp)
        have hk457 := hq31.bk (ni_new hb3z (Nat.lt_of_lt_of_le (bk_lt hpP) (Nat.le_refl _)) ni_nil) (Le.bk (qle40.trans (ql21.trans ((Le.drew w108).trans qle41))) hb3)
        have hk458 := hq31.bk (ni_new qz1 (Nat.lt_of_lt_of_le (bk_lt hpP) (Nat.le_trans hl1.size qle40.size)) ni_nil) (Le.bk ((Le.drew w108).trans qle41) hb76)
        have hk459 := Lx.rdx2 hq31 hz91.rd rfl (dr_in (List.mem_append_right _ hmp) dr_nil) (Le.rdx ((Le.drew w108).trans qle41) hz91)
        have hk460 := Lx.rdx2 hq31 hz92.rd rfl (dr_in (List.mem_append_right _ hmp) dr_nil) (Le.rdx ((Le.drew w108).trans qle41) hz92)
        have hk461 := Lx.rdx2 hq31 hz93.rd rfl (dr_in (List.mem_append_right _ hmp) dr_nil) (Le.rdx ((Le.drew w108).trans qle41) hz93)
        have hk462 := Lx.rdx2 hq31 hz94.rd rfl (dr_in (List.mem_append_right _ hmp) dr_nil) (Le.rdx ((Le.drew w108).trans qle41) hz94)
        have hk463 := Lx.rdx2 hq31 hz95.rd rfl (dr_in (List.mem_append_right _ hmp) dr_nil) (Le.rdx ((Le.drew w108).trans qle41) hz95)
        refine ⟨trivial, ?_⟩
        refine LZ ?_
        refine F_block ?_
        refine F_seq ?_
        refine W_seq ?_
        refine W_reg (.pure 0 .nil) rfl ?_
        refine LP rfl rfl rfl (xas rfl) ?_
        refine LZ ?_
        refine F_seq ?_
        refine W_ret ?_
        have hbl : qb1 < w110.heap.size := (bk_lt hk458)
        have hwb : w.heap.size ≤ qb1 := by have := qz1; have := (Nat.le_trans hl1.size qle40.size); omega
        have lx76 : Lx [bp, bc] w w110 := (hq31.drop (Lx.trans (Lx.trans (Lx.trans (Lx.trans (Lx.trans (Lx.refl _ _) hl1.lx) qle40.lx) ql21.lx) (Le.drew w108).lx) qle41.lx) (dr_in (by simp) dr_nil))
        exact F_end1 rfl rfl ⟨_, rfl, [qb1] ++ S, _, _, rfl, lx76.mono (ms_cons hmp (ms_cons hmc ms_nil)), ⟨hb77, (⟨_, _, _, _, _, hk458, (hk459.less (by intro i hi; simp only [List.cons_append, List.nil_append, List.mem_cons] at hi ⊢; grind)), (hk460.less (by intro i hi; simp only [List.cons_append, List.nil_append, List.mem_cons] at hi ⊢; grind)), (hk461.less (by intro i hi; simp only [List.cons_append, List.nil_append, List.mem_cons] at hi ⊢; grind)), (hk462.less (by intro i hi; simp only [List.cons_append, List.nil_append, List.mem_cons] at hi ⊢; grind)), (hk463.less (by intro i hi; simp only [List.cons_append, List.nil_append, List.mem_cons] at hi ⊢; grind))⟩ : Cl ([qb1] ++ S) w110 116 qb1 c), (⟨_, _, _, _, _, hk444, (RdX.more hk445 hz6.rd rfl (inc (Nat.le_trans hl1.size qle40.size) qz1 inn)), (RdX.more hk446 hz7.rd rfl (inc (Nat.le_trans hl1.size qle40.size) qz1 inn)), (RdX.more hk447 hz8.rd rfl (inc (Nat.le_trans hl1.size qle40.size) qz1 inn)), (RdX.more hk448 hz9.rd rfl (inc (Nat.le_trans hl1.size qle40.size) qz1 inn)), (RdX.more hk449 hz10.rd rfl (inc (Nat.le_trans hl1.size qle40.size) qz1 inn))⟩ : Cl ([qb1] ++ S) w110 118 bw c), List.mem_append_right _ hmp, by simp, List.mem_append_right _ hmw, hok, hlz, lt_app (lt_cons hbl lt_nil) (lt_le hS (Nat.le_trans hl1.size (Nat.le_trans qle40.size (Nat.le_trans ql21.size (Nat.le_trans (Le.drew w108).size (Nat.le_trans qle41.size hq31.size))))))⟩, fun i hi => (List.mem_append.1 hi).elim (fun h => .inr (by simp at h; subst h; exact hwb)) .inl⟩
       ·
        have hk464 := qlx26.bk (ni_ne n1 ni_nil) (Le.bk (hl1.trans (qle40.trans (ql21.trans (Le.drew w108)))) hpP)
        have hk465 := Lx.rdx2 qlx26 hz1.rd rfl (dr_in hmc dr_nil) (Le.rdx (hl1.trans (qle40.trans (ql21.trans (Le.drew w108)))) hz1)
        have hk466 := Lx.rdx2 qlx26 hz2.rd rfl (dr_in hmc dr_nil) (Le.rdx (hl1.trans (qle40.trans (ql21.trans (Le.drew w108)))) hz2)
        have hk467 := Lx.rdx2 qlx26 hz3.rd rfl (dr_in hmc dr_nil) (Le.rdx (hl1.trans (qle40.trans (ql21.trans (Le.drew w108)))) hz3)
        have hk468 := Lx.rdx2 qlx26 hz4.rd rfl (dr_in hmc dr_nil) (Le.rdx (hl1.trans (qle40.trans (ql21.trans (Le.drew w108)))) hz4)
        have hk469 := Lx.rdx2 qlx26 hz5.rd rfl (dr_in hmc dr_nil) (Le.rdx (hl1.trans (qle40.trans (ql21.trans (Le.drew w108)))) hz5)
        have hk470 := qlx26.bk (ni_ne (Ne.symm n3) ni_nil) (Le.bk (hl1.trans (qle40.trans (ql21.trans (Le.drew w108)))) hb2)
        have hk471 := Lx.rdx2 qlx26 hz6.rd rfl (dr_in hmc dr_nil) (Le.rdx (hl1.trans (qle40.trans (ql21.trans (Le.drew w108)))) hz6)
        have hk472 := Lx.rdx2 qlx26 hz7.rd rfl (dr_in hmc dr_nil) (Le.rdx (hl1.trans (qle40.trans (ql21.trans (Le.drew w108)))) hz7)
        have hk473 := Lx.rdx2 qlx26 hz8.rd rfl (dr_in hmc dr_nil) (Le.rdx (hl1.trans (qle40.trans (ql21.trans (Le.drew w108)))) hz8)
        have hk474 := Lx.rdx2 qlx26 hz9.rd rfl (dr_in hmc dr_nil) (Le.rdx (hl1.trans (qle40.trans (ql21.trans (Le.drew w108)))) hz9)
        have hk475 := Lx.rdx2 qlx26 hz10.rd rfl (dr_in hmc dr_nil) (Le.rdx (hl1.trans (qle40.trans (ql21.trans (Le.drew w108)))) hz10)
        have hk476 := Lx.rdx2 qlx26 htc.rd rfl (dr_in hmc dr_nil) (Le.rdx (hl1.trans (qle40.trans (ql21.trans (Le.drew w108)))) htc)
        have hk477 := Lx.rdx2 qlx26 hta.rd rfl (dr_in hmc dr_nil) (Le.rdx (hl1.trans (qle40.trans (ql21.trans (Le.drew w108)))) hta)
        have hk478 := Lx.rdx2 qlx26 htr.rd rfl (dr_in hmc dr_nil) (Le.rdx (hl1.trans (qle40.trans (ql21.trans (Le.drew w108)))) htr)
        have hk479 := Lx.rdx2 qlx26 htw.rd rfl (dr_in hmc dr_nil) (Le.rdx (hl1.trans (qle40.trans (ql21.trans (Le.drew w108)))) htw)
        have hk480 := Lx.rdx2 qlx26 hx.rd rfl (dr_in hmc dr_nil) (Le.rdx (hl1.trans (qle40.trans (ql21.trans (Le.drew w108)))) hx)
        have hk481 := Lx.rdx2 qlx26 hk.rd rfl (dr_in hmc dr_nil) (Le.rdx (hl1.trans (qle40.trans (ql21.trans (Le.drew w108)))) hk)
        have hk482 := Lx.rdx2 qlx26 hp.rd rfl (dr_in hmc dr_nil) (Le.rdx (hl1.trans (qle40.trans (ql21.trans (Le.drew w108)))) hp)
        have hk483 := qlx26.bk (ni_new hb3z (Nat.lt_of_lt_of_le (bk_lt hb1) (Nat.le_refl _)) ni_nil) (Le.bk (qle40.trans (ql21.trans (Le.drew w108))) hb3)
        have hk484 := qlx26.bk (ni_new qz1 (Nat.lt_of_lt_of_le (bk_lt hb1) (Nat.le_trans hl1.size qle40.size)) ni_nil) (Le.bk (Le.drew w108) hb76)
        have hk485 := Lx.rdx2 qlx26 hz91.rd rfl (dr_in (List.mem_append_right _ hmc) dr_nil) (Le.rdx (Le.drew w108) hz91)
        have hk486 := Lx.rdx2 qlx26 hz92.rd rfl (dr_in (List.mem_append_right _ hmc) dr_nil) (Le.rdx (Le.drew w108) hz92)
        have hk487 := Lx.rdx2 qlx26 hz93.rd rfl (dr_in (List.mem_append_right _ hmc) dr_nil) (Le.rdx (Le.drew w108) hz93)
        have hk488 := Lx.rdx2 qlx26 hz94.rd rfl (dr_in (List.mem_append_right _ hmc) dr_nil) (Le.rdx (Le.drew w108) hz94)
        have hk489 := Lx.rdx2 qlx26 hz95.rd rfl (dr_in (List.mem_append_right _ hmc) dr_nil) (Le.rdx (Le.drew w108) hz95)
        obtain ⟨z96, z97, z98, z99, z100, hb78, hz96, hz97, hz98, hz99, hz100⟩ := qcl27
        have lx77 : Lx [bc] w108 w109 := (qlx26.drop (Lx.trans (Lx.refl _ _) (Le.drew w108).lx) (dr_in (by simp) dr_nil))
        refine ⟨lx77, ?_⟩
        refine LZ ?_
        refine F_seq ?_
        refine W_reg (.pure 0 (.pure 1 (.pure 2 (.pure 3 (.one 4 .nil))))) rfl ?_
        refine LP rfl rfl rfl (xmv rfl) ?_
        refine LP rfl rfl rfl (xmv rfl) ?_
        refine LP rfl rfl rfl (xnc rfl) ?_
        refine LP rfl rfl rfl (xfa fa48_0 rfl) ?_
        refine LU rfl rfl (xsb sz27 hk464 rfl rfl (ptr_cells _) rfl rfl (al_cons rfl al_nil)) ?_
        rintro w111 ⟨hq32, hb79⟩
        dsimp only [put] at hb79
        have hk490 := hq32.bk (ni_ne (Ne.symm n1) ni_nil) hb78
        have hk491 := Lx.rdx2 hq32 hz96.rd rfl (dr_in (List.mem_append_right _ hmp) dr_nil) hz96
        have hk492 := Lx.rdx2 hq32 hz97.rd rfl (dr_in (List.mem_append_right _ hmp) dr_nil) hz97
        have hk493 := Lx.rdx2 hq32 hz98.rd rfl (dr_in (List.mem_append_right _ hmp) dr_nil) hz98
        have hk494 := Lx.rdx2 hq32 hz99.rd rfl (dr_in (List.mem_append_right _ hmp) dr_nil) hz99
        have hk495 := Lx.rdx2 hq32 hz100.rd rfl (dr_in (List.mem_append_right _ hmp) dr_nil) hz100
        have hk496 := hq32.bk (ni_ne (Ne.symm n2) ni_nil) hk470
        have hk497 := Lx.rdx2 hq32 hz6.rd rfl (dr_in hmp dr_nil) hk471
        have hk498 := Lx.rdx2 hq32 hz7.rd rfl (dr_in hmp dr_nil) hk472
        have hk499 := Lx.rdx2 hq32 hz8.rd rfl (dr_in hmp dr_nil) hk473
        have hk500 := Lx.rdx2 hq32 hz9.rd rfl (dr_in hmp dr_nil) hk474
        have hk501 := Lx.rdx2 hq32 hz10.rd rfl (dr_in hmp dr_nil) hk475
        have hk502 := Lx.rdx2 hq32 htc.rd rfl (dr_in hmp dr_nil) hk476
        have hk503 := Lx.rdx2 hq32 hta.rd rfl (dr_in hmp dr_nil) hk477
        have hk504 := Lx.rdx2 hq32 htr.rd rfl (dr_in hmp dr_nil) hk478
        have hk505 := Lx.rdx2 hq32 htw.rd rfl (dr_in hmp dr_nil) hk479
        have hk506 := Lx.rdx2 hq32 hx.rd rfl (dr_in hmp dr_nil) hk480
        have hk507 := Lx.rdx2 hq32 hk.rd rfl (dr_in hmp dr_nil) hk481
        have hk508 := Lx.rdx2 hq32 hp.rd rfl (dr_in hmp dr_nil) hk482
        have hk509 := hq32.bk (ni_new hb3z (Nat.lt_of_lt_of_le (bk_lt hpP) (Nat.le_refl _)) ni_nil) hk483
        have hk510 := hq32.bk (ni_new qz1 (Nat.lt_of_lt_of_le (bk_lt hpP) (Nat.le_trans hl1.size qle40.size)) ni_nil) hk484
        have hk511 := Lx.rdx2 hq32 hz91.rd rfl (dr_in (List.mem_append_right _ hmp) dr_nil) hk485
        have hk512 := Lx.rdx2 hq32 hz92.rd rfl (dr_in (List.mem_append_right _ hmp) dr_nil) hk486
        have hk513 := Lx.rdx2 hq32 hz93.rd rfl (dr_in (List.mem_append_right _ hmp) dr_nil) hk487
        have hk514 := Lx.rdx2 hq32 hz94.rd rfl (dr_in (List.mem_append_right _ hmp) dr_nil) hk488
        have hk515 := Lx.rdx2 hq32 hz95.rd rfl (dr_in (List.mem_append_right _ hmp) dr_nil) hk489
        refine ⟨trivial, ?_⟩
        refine LZ ?_
        refine F_block ?_
        refine F_seq ?_
        refine W_seq ?_
        refine W_reg (.pure 0 .nil) rfl ?_
        refine LP rfl rfl rfl (xas rfl) ?_
        refine LZ ?_
        refine F_seq ?_
        refine W_ret ?_
        have hbl : qb1 < w111.heap.size := (bk_lt hk510)
        have hwb : w.heap.size ≤ qb1 := by have := qz1; have := (Nat.le_trans hl1.size qle40.size); omega
        have lx78 : Lx [bp, bc] w w109 := (qlx26.drop (Lx.trans (Lx.trans (Lx.trans (Lx.trans (Lx.refl _ _) hl1.lx) qle40.lx) ql21.lx) (Le.drew w108).lx) (dr_in (by simp) dr_nil))
        have lx79 : Lx [bp, bc] w w111 := (hq32.drop lx78 (dr_in (by simp) dr_nil))
        exact F_end1 rfl rfl ⟨_, rfl, [qb1] ++ S, _, _, rfl, lx79.mono (ms_cons hmp (ms_cons hmc ms_nil)), ⟨hb79, (⟨_, _, _, _, _, hk510, (hk511.less (by intro i hi; simp only [List.cons_append, List.nil_append, List.mem_cons] at hi ⊢; grind)), (hk512.less (by intro i hi; simp only [List.cons_append, List.nil_append, List.mem_cons] at hi ⊢; grind)), (hk513.less (by intro i hi; simp only [List.cons_append, List.nil_append, List.mem_cons] at hi ⊢; grind)), (hk514.less (by intro i hi; simp only [List.cons_append, List.nil_append, List.mem_cons] at hi ⊢; grind)), (hk515.less (by intro i hi; simp only [List.cons_append, List.nil_append, List.mem_cons] at hi ⊢; grind))⟩ : Cl ([qb1] ++ S) w111 116 qb1 c), (⟨_, _, _, _, _, hk496, (RdX.more hk497 hz6.rd rfl (inc (Nat.le_trans hl1.size qle40.size) qz1 inn)), (RdX.more hk498 hz7.rd rfl (inc (Nat.le_trans hl1.size qle40.size) qz1 inn)), (RdX.more hk499 hz8.rd rfl (inc (Nat.le_trans hl1.size qle40.size) qz1 inn)), (RdX.more hk500 hz9.rd rfl (inc (Nat.le_trans hl1.size qle40.size) qz1 inn)), (RdX.more hk501 hz10.rd rfl (inc (Nat.le_trans hl1.size qle40.size) qz1 inn))⟩ : Cl ([qb1] ++ S) w111 118 bw c), List.mem_append_right _ hmp, by simp, List.mem_append_right _ hmw, hok, hlz, lt_app (lt_cons hbl lt_nil) (lt_le hS (Nat.le_trans hl1.size (Nat.le_trans qle40.size (Nat.le_trans ql21.size (Nat.le_trans (Le.drew w108).size (Nat.le_trans qlx26.size hq32.size))))))⟩, fun i hi => (List.mem_append.1 hi).elim (fun h => .inr (by simp at h; subst h; exact hwb)) .inl⟩
      · -- c7 no
       replace c7 := of_decide_eq_false c7
       refine W_skip ?_
       refine F_block ?_
       refine F_seq ?_
       refine W_seq ?_
       refine W_reg (.pure 0 .nil) rfl ?_
       refine LP rfl rfl rfl (xas rfl) ?_
       refine LZ ?_
       refine F_seq ?_
       refine W_ret ?_
       exact F_end1 rfl rfl ⟨_, rfl, S, _, _, rfl, (Lx.trans (Lx.refl _ _) hl1.lx).mono (ms_cons hmc (ms_cons hmw ms_nil)), ⟨(Le.bk hl1 hpP), (⟨_, _, _, _, _, (Le.bk hl1 hb1), (Le.rdx hl1 hz1), (Le.rdx hl1 hz2), (Le.rdx hl1 hz3), (Le.rdx hl1 hz4), (Le.rdx hl1 hz5)⟩ : Cl S w1 116 bc c), (⟨_, _, _, _, _, (Le.bk hl1 hb2), (Le.rdx hl1 hz6), (Le.rdx hl1 hz7), (Le.rdx hl1 hz8), (Le.rdx hl1 hz9), (Le.rdx hl1 hz10)⟩ : Cl S w1 118 bw c), hmp, hmc, hmw, hok, hlz, (lt_le hS hl1.size)⟩, fun i hi => .inl hi⟩
end Go.Proofs.Ythmhbonhagjnnaa
