/- Transactions, results and asks that are the same. -/
import Derived.Test.YthmhbonhagjnnaaProg
import Derived.Test.YthmhbonhagjnnaaC5
import Derived.KernelRfl
namespace Go.Proofs.Ythmhbonhagjnnaa
open Go.RowKit
set_option linter.unusedVariables false
set_option linter.unusedSimpArgs false
theorem has67 : Has Try.prog 67 Try.f67 := ⟨Try.func67, by kernel_rfl, rfl⟩
theorem has68 : Has Try.prog 68 Try.f68 := ⟨Try.func68, by kernel_rfl, rfl⟩
theorem fa50_0 : FA Try.prog 50 0 0 := fun _ _ _ => by kernel_rfl
theorem fa50_3 : FA Try.prog 50 3 3 := fun _ _ _ => by kernel_rfl
theorem fa36_0 : FA Try.prog 36 0 0 := fun _ _ _ => by kernel_rfl
theorem fa36_2 : FA Try.prog 36 2 7 := fun _ _ _ => by kernel_rfl
theorem un4 : Try.prog.underlying 4 = some .bool := by kernel_rfl
theorem fa36_4 : FA Try.prog 36 4 9 := fun _ _ _ => by kernel_rfl
theorem fa36_1 : FA Try.prog 36 1 1 := fun _ _ _ => by kernel_rfl
theorem has21 : Has Try.prog 21 Try.f21 := ⟨Try.func21, by kernel_rfl, rfl⟩
theorem fa36_3 : FA Try.prog 36 3 8 := fun _ _ _ => by kernel_rfl
theorem txnSame {t : Txn} {vtc vta vtr vtw vuc vua vur vuw : Value} {w : World} (htc : RdE w.heap ByteE vtc t.code) (hta : RdE w.heap IntE vta t.args) (htr : RdE w.heap KeyE vtr t.reads) (htw : RdE w.heap KeyE vtw t.writes) (huc : RdE w.heap ByteE vuc t.code) (hua : RdE w.heap IntE vua t.args) (hur : RdE w.heap KeyE vur t.reads) (huw : RdE w.heap KeyE vuw t.writes) :
    Fn Try.prog 21 #[(.agg #[.int .i64 t.se, .int .i64 t.rq, vtc, vta, vtr, vtw]), (.agg #[.int .i64 t.se, .int .i64 t.rq, vuc, vua, vur, vuw])] w fun v w' => v = .bool true ∧ Le w w' := by
 refine Fn.enter 65 [(0, _), (1, _)] Try.func21 rfl rfl rfl rfl ?_
 have hz := htc.sh.le
 have hzu := huc.sh.le
 refine W_seq ?_
 refine W_reg (.one 0 (.one 1 (.pure 2 .nil))) rfl ?_
 refine LT rfl rfl rfl (xbox rfl) ?_
 rintro _ w1 ⟨b1, rfl, hl1, hb1, hb1z⟩
 refine ⟨trivial, ?_⟩
 refine LT rfl rfl rfl (xbox rfl) ?_
 rintro _ w2 ⟨b2, rfl, hl2, hb2, hb2z⟩
 refine ⟨trivial, ?_⟩
 refine LP rfl rfl rfl (xas rfl) ?_
 refine LZ ?_
 refine F_seq ?_
 refine W_seq ?_
 refine W_seq ?_
 refine W_reg (.pure 0 (.one 1 (.pure 2 (.one 3 (.pure 4 (.pure 5 (.pure 6 (.one 7 (.pure 8 (.one 9 (.pure 10 (.pure 11 (.pure 12 (.pure 13 (.one 14 (.pure 15 (.pure 16 (.one 17 (.pure 18 (.pure 19 (.pure 20 (.pure 21 (.pure 22 (.one 23 (.pure 24 (.one 25 (.one 26 (.pure 27 (.pure 28 .nil))))))))))))))))))))))))))))) rfl ?_
 refine LP rfl rfl rfl (xfa fa26_0 rfl) ?_
 refine LX rfl rfl rfl (xld sc2 rfl (cl_bk (Le.bk hl2 hb1) rfl)) trivial ?_
 refine LP rfl rfl rfl (xfa fa26_0 rfl) ?_
 refine LX rfl rfl rfl (xld sc2 rfl (cl_bk hb2 rfl)) trivial ?_
 refine LP rfl rfl rfl (xneq rfl rfl) ?_
 refine L_is 10 (v := .bool false) rfl (by simp) ?_
 refine LP rfl rfl rfl (xmv rfl) ?_
 refine LP rfl rfl rfl (xfa fa26_1 rfl) ?_
 refine LX rfl rfl rfl (xld sc2 rfl (cl_bk (Le.bk hl2 hb1) rfl)) trivial ?_
 refine LP rfl rfl rfl (xfa fa26_1 rfl) ?_
 refine LX rfl rfl rfl (xld sc2 rfl (cl_bk hb2 rfl)) trivial ?_
 refine LP rfl rfl rfl (xneq rfl rfl) ?_
 refine L_is 16 (v := .bool false) rfl (by simp) ?_
 refine LP rfl rfl rfl (xpk0 rfl rfl) ?_
 refine LP rfl rfl rfl (xmv rfl) ?_
 refine LP rfl rfl rfl (xfa fa26_2 rfl) ?_
 refine LX rfl rfl rfl (xld sc22 rfl (cl_bk (Le.bk hl2 hb1) rfl)) trivial ?_
 refine LP rfl rfl rfl (xlen un22 htc.sh rfl) ?_
 refine LP rfl rfl rfl (xfa fa26_2 rfl) ?_
 refine LX rfl rfl rfl (xld sc22 rfl (cl_bk hb2 rfl)) trivial ?_
 refine LP rfl rfl rfl (xlen un22 huc.sh rfl) ?_
 refine LP rfl rfl rfl (xneq rfl rfl) ?_
 refine L_is 25 (v := .bool false) rfl (by simp) ?_
 refine LP rfl rfl rfl (xpk0 rfl rfl) ?_
 refine LP rfl rfl rfl (xmv rfl) ?_
 refine LP rfl rfl rfl (xfa fa26_3 rfl) ?_
 refine LX rfl rfl rfl (xld sc23 rfl (cl_bk (Le.bk hl2 hb1) rfl)) trivial ?_
 refine LP rfl rfl rfl (xfa fa26_3 rfl) ?_
 refine LX rfl rfl rfl (xld sc23 rfl (cl_bk hb2 rfl)) trivial ?_
 refine LF rfl rfl rfl has67 rfl (sameV25 (RdE.le (hl1.trans hl2) hta) (RdE.le (hl1.trans hl2) hua)) ?_
 rintro _ w3 ⟨rfl, hl3⟩
 refine ⟨trivial, ?_⟩
 refine L_is 32 (v := .bool true) rfl (by simp) ?_
 refine LP rfl rfl rfl (xnot rfl) ?_
 refine LP rfl rfl rfl (xpk0 rfl rfl) ?_
 refine LZ ?_
 refine F_seq ?_
 refine W_else rfl ?_
 refine W_skip ?_
 refine F_seq ?_
 refine W_seq ?_
 refine W_seq ?_
 refine W_reg (.pure 0 .nil) rfl ?_
 refine LP rfl rfl rfl (xas rfl) ?_
 refine LZ ?_
 refine F_seq ?_
 refine W_block ?_
 refine W_loopv (ι := Nat) (fun k => [(5, .int .i64 (k : Int))]) (fun k w' => Le w3 w' ∧ k ≤ t.code.length) (fun k => t.code.length - k) 0 (hvc rfl hvn) ⟨Le.refl _, Nat.zero_le _⟩ ?_
 rintro k w4 ⟨hl4, hk⟩
 refine W_seq ?_
 refine W_seq ?_
 refine W_reg (.pure 0 (.pure 1 (.one 2 (.pure 3 (.pure 4 .nil))))) rfl ?_
 refine LP rfl rfl rfl (xmv rfl) ?_
 refine LP rfl rfl rfl (xfa fa26_2 rfl) ?_
 refine LX rfl rfl rfl (xld sc22 rfl (cl_bk (Le.bk (hl2.trans (hl3.trans hl4)) hb1) rfl)) trivial ?_
 refine LP rfl rfl rfl (xlen un22 htc.sh rfl) ?_
 refine LP rfl rfl rfl (xlss rfl rfl) ?_
 refine LZ ?_
 refine F_seq ?_
 refine W_cond rfl (fun c2 => ?_) (fun c2 => ?_)
 · -- c2 yes
  replace c2 := of_decide_eq_true c2
  refine W_skip ?_
  refine F_seq ?_
  refine W_seq ?_
  refine W_block ?_
  refine W_seq ?_
  refine W_draw (.pure 0 (.still 1 (.pure 2 (.pure 3 (.still 4 (.pure 5 (.still 6 (.pure 7 (.pure 8 (.still 9 (.pure 10 .nil))))))))))) (Le w4) hfol (by kernel_rfl) (pkt (pkb (pkt (pkt (pkb (pkt pkB)))))) (Le.drew _) ?_
  refine LP rfl rfl rfl (xfa fa26_2 rfl) ?_
  refine LS rfl rfl rfl (fun w' hw' => (xld sc22 rfl (cl_bk (Le.bk ((hl2.trans (hl3.trans hl4)).trans hw') hb1) rfl))) ?_
  refine LP rfl rfl rfl (xmv rfl) ?_
  obtain ⟨x1, hx1⟩ : ∃ x, t.code[k]? = some x := ⟨_, List.getElem?_eq_getElem (by omega)⟩
  refine LP rfl rfl rfl (xix k un22 sz5 htc.sh rfl rfl (by omega) (by omega)) ?_
  refine LS rfl rfl rfl (fun w' hw' => (xle1 sc5 (RdE.le ((hl1.trans (hl2.trans (hl3.trans hl4))).trans hw') htc) hx1 rfl rfl)) ?_
  refine LP rfl rfl rfl (xfa fa26_2 rfl) ?_
  refine LS rfl rfl rfl (fun w' hw' => (xld sc22 rfl (cl_bk (Le.bk ((hl3.trans hl4).trans hw') hb2) rfl))) ?_
  refine LP rfl rfl rfl (xmv rfl) ?_
  refine LP rfl rfl rfl (xix k un22 sz5 huc.sh rfl rfl (by omega) (by omega)) ?_
  refine LS rfl rfl rfl (fun w' hw' => (xle1 sc5 (RdE.le ((hl1.trans (hl2.trans (hl3.trans hl4))).trans hw') huc) hx1 rfl rfl)) ?_
  refine LP rfl rfl rfl (xneq rfl rfl) ?_
  refine L_is 52 (v := .bool false) rfl (by simp) ?_
  refine LZ ?_
  refine F_seq ?_
  refine W_else rfl ?_
  refine W_skip ?_
  refine F_block ?_
  refine F_seq ?_
  refine W_reg (.pure 0 (.pure 1 (.pure 2 .nil))) rfl ?_
  refine LP rfl rfl rfl (xmv rfl) ?_
  refine LP rfl rfl rfl (xaddn rfl rfl (by omega)) ?_
  refine LP rfl rfl rfl (xas rfl) ?_
  refine LZ ?_
  exact F_roundv (k + 1) ⟨(hl4.trans (Le.drew w4)), by omega⟩ (by (try dsimp only); omega) (lk_loop 20 rfl rfl (hvc rfl hvn))
 · -- c2 no
  replace c2 := of_decide_eq_false c2
  refine W_exit ?_
  refine F_exit_then ?_
  refine F_exit_then ?_
  refine F_exit_here ?_
  refine F_seq ?_
  refine W_seq ?_
  refine W_reg (.pure 0 (.one 1 (.pure 2 (.one 3 (.one 4 (.pure 5 (.pure 6 (.one 7 (.pure 8 (.one 9 (.one 10 (.pure 11 (.pure 12 .nil))))))))))))) rfl ?_
  refine LP rfl rfl rfl (xfa fa26_4 rfl) ?_
  refine LX rfl rfl rfl (xld sc24 rfl (cl_bk (Le.bk (hl2.trans (hl3.trans hl4)) hb1) rfl)) trivial ?_
  refine LP rfl rfl rfl (xfa fa26_4 rfl) ?_
  refine LX rfl rfl rfl (xld sc24 rfl (cl_bk (Le.bk (hl3.trans hl4) hb2) rfl)) trivial ?_
  refine LF rfl rfl rfl has68 rfl (same11 (RdE.le (hl1.trans (hl2.trans (hl3.trans hl4))) htr) (RdE.le (hl1.trans (hl2.trans (hl3.trans hl4))) hur)) ?_
  rintro _ w5 ⟨rfl, hl5⟩
  refine ⟨trivial, ?_⟩
  refine L_is 57 (v := .bool true) rfl (by simp) ?_
  refine LP rfl rfl rfl (xmv rfl) ?_
  refine LP rfl rfl rfl (xfa fa26_5 rfl) ?_
  refine LX rfl rfl rfl (xld sc24 rfl (cl_bk (Le.bk (hl2.trans (hl3.trans (hl4.trans hl5))) hb1) rfl)) trivial ?_
  refine LP rfl rfl rfl (xfa fa26_5 rfl) ?_
  refine LX rfl rfl rfl (xld sc24 rfl (cl_bk (Le.bk (hl3.trans (hl4.trans hl5)) hb2) rfl)) trivial ?_
  refine LF rfl rfl rfl has68 rfl (same11 (RdE.le (hl1.trans (hl2.trans (hl3.trans (hl4.trans hl5)))) htw) (RdE.le (hl1.trans (hl2.trans (hl3.trans (hl4.trans hl5)))) huw)) ?_
  rintro _ w6 ⟨rfl, hl6⟩
  refine ⟨trivial, ?_⟩
  refine L_is 63 (v := .bool true) rfl (by simp) ?_
  refine LP rfl rfl rfl (xpk1 rfl rfl) ?_
  refine LP rfl rfl rfl (xas rfl) ?_
  refine LZ ?_
  refine F_seq ?_
  refine W_ret ?_
  exact F_end1 rfl rfl ⟨_, rfl, rfl, (hl1.trans (hl2.trans (hl3.trans (hl4.trans (hl5.trans hl6)))))⟩
theorem resSame {r : Res} {va vb : Value} {w : World} (ha : RdE w.heap IntE va r.vals) (hb : RdE w.heap IntE vb r.vals) :
    Fn Try.prog 79 #[(.agg #[.int .i64 r.e, va, .int .i64 r.slot, .int .i64 r.place]), (.agg #[.int .i64 r.e, vb, .int .i64 r.slot, .int .i64 r.place])] w fun v w' => v = .bool true ∧ Le w w' := by
 refine Fn.enter 31 [(0, _), (1, _)] Try.func79 rfl rfl rfl rfl ?_
 refine W_seq ?_
 refine W_reg (.one 0 (.one 1 (.pure 2 .nil))) rfl ?_
 refine LT rfl rfl rfl (xbox rfl) ?_
 rintro _ w1 ⟨b1, rfl, hl1, hb1, hb1z⟩
 refine ⟨trivial, ?_⟩
 refine LT rfl rfl rfl (xbox rfl) ?_
 rintro _ w2 ⟨b2, rfl, hl2, hb2, hb2z⟩
 refine ⟨trivial, ?_⟩
 refine LP rfl rfl rfl (xas rfl) ?_
 refine LZ ?_
 refine F_seq ?_
 refine W_seq ?_
 refine W_reg (.pure 0 (.one 1 (.pure 2 (.one 3 (.pure 4 (.pure 5 (.pure 6 (.one 7 (.pure 8 (.one 9 (.pure 10 (.pure 11 (.pure 12 (.pure 13 (.one 14 (.pure 15 (.one 16 (.pure 17 (.pure 18 (.pure 19 (.pure 20 (.one 21 (.pure 22 (.one 23 (.one 24 (.pure 25 (.pure 26 .nil))))))))))))))))))))))))))) rfl ?_
 refine LP rfl rfl rfl (xfa fa50_0 rfl) ?_
 refine LX rfl rfl rfl (xld sc3 rfl (cl_bk (Le.bk hl2 hb1) rfl)) trivial ?_
 refine LP rfl rfl rfl (xfa fa50_0 rfl) ?_
 refine LX rfl rfl rfl (xld sc3 rfl (cl_bk hb2 rfl)) trivial ?_
 refine LP rfl rfl rfl (xeql rfl rfl) ?_
 refine L_is 9 (v := .bool true) rfl (by simp) ?_
 refine LP rfl rfl rfl (xmv rfl) ?_
 refine LP rfl rfl rfl (xfa fa50_2 rfl) ?_
 refine LX rfl rfl rfl (xld sc2 rfl (cl_bk (Le.bk hl2 hb1) rfl)) trivial ?_
 refine LP rfl rfl rfl (xfa fa50_2 rfl) ?_
 refine LX rfl rfl rfl (xld sc2 rfl (cl_bk hb2 rfl)) trivial ?_
 refine LP rfl rfl rfl (xeql rfl rfl) ?_
 refine L_is 15 (v := .bool true) rfl (by simp) ?_
 refine LP rfl rfl rfl (xpk1 rfl rfl) ?_
 refine LP rfl rfl rfl (xmv rfl) ?_
 refine LP rfl rfl rfl (xfa fa50_3 rfl) ?_
 refine LX rfl rfl rfl (xld sc3 rfl (cl_bk (Le.bk hl2 hb1) rfl)) trivial ?_
 refine LP rfl rfl rfl (xfa fa50_3 rfl) ?_
 refine LX rfl rfl rfl (xld sc3 rfl (cl_bk hb2 rfl)) trivial ?_
 refine LP rfl rfl rfl (xeql rfl rfl) ?_
 refine L_is 22 (v := .bool true) rfl (by simp) ?_
 refine LP rfl rfl rfl (xpk1 rfl rfl) ?_
 refine LP rfl rfl rfl (xmv rfl) ?_
 refine LP rfl rfl rfl (xfa fa50_1 rfl) ?_
 refine LX rfl rfl rfl (xld sc23 rfl (cl_bk (Le.bk hl2 hb1) rfl)) trivial ?_
 refine LP rfl rfl rfl (xfa fa50_1 rfl) ?_
 refine LX rfl rfl rfl (xld sc23 rfl (cl_bk hb2 rfl)) trivial ?_
 refine LF rfl rfl rfl has67 rfl (sameV25 (RdE.le (hl1.trans hl2) ha) (RdE.le (hl1.trans hl2) hb)) ?_
 rintro _ w3 ⟨rfl, hl3⟩
 refine ⟨trivial, ?_⟩
 refine L_is 29 (v := .bool true) rfl (by simp) ?_
 refine LP rfl rfl rfl (xpk1 rfl rfl) ?_
 refine LP rfl rfl rfl (xas rfl) ?_
 refine LZ ?_
 refine F_seq ?_
 refine W_ret ?_
 exact F_end1 rfl rfl ⟨_, rfl, rfl, (hl1.trans (hl2.trans hl3))⟩
theorem askSame {rep least : Int} {q : Bool} {l : List Key} {t : Txn} {vac vaa var vaw vak vbc vba vbr vbw vbk : Value} {w : World} (hac : RdE w.heap ByteE vac t.code) (haa : RdE w.heap IntE vaa t.args) (har : RdE w.heap KeyE var t.reads) (haw : RdE w.heap KeyE vaw t.writes) (hbc : RdE w.heap ByteE vbc t.code) (hba : RdE w.heap IntE vba t.args) (hbr : RdE w.heap KeyE vbr t.reads) (hbw : RdE w.heap KeyE vbw t.writes) (hak : RdE w.heap KeyE vak l) (hbk : RdE w.heap KeyE vbk l) :
    Fn Try.prog 69 #[(.agg #[.int .i64 rep, .int .i64 t.se, .int .i64 t.rq, vac, vaa, var, vaw, .bool q, vak, .int .i64 least]), (.agg #[.int .i64 rep, .int .i64 t.se, .int .i64 t.rq, vbc, vba, vbr, vbw, .bool q, vbk, .int .i64 least])] w fun v w' => v = .bool true ∧ Le w w' := by
 refine Fn.enter 38 [(0, _), (1, _)] Try.func69 rfl rfl rfl rfl ?_
 refine W_seq ?_
 refine W_reg (.one 0 (.one 1 (.pure 2 .nil))) rfl ?_
 refine LT rfl rfl rfl (xbox rfl) ?_
 rintro _ w1 ⟨b1, rfl, hl1, hb1, hb1z⟩
 refine ⟨trivial, ?_⟩
 refine LT rfl rfl rfl (xbox rfl) ?_
 rintro _ w2 ⟨b2, rfl, hl2, hb2, hb2z⟩
 refine ⟨trivial, ?_⟩
 refine LP rfl rfl rfl (xas rfl) ?_
 refine LZ ?_
 refine F_seq ?_
 refine W_seq ?_
 refine W_reg (.pure 0 (.one 1 (.pure 2 (.one 3 (.pure 4 (.pure 5 (.pure 6 (.one 7 (.pure 8 (.one 9 (.pure 10 (.pure 11 (.pure 12 (.pure 13 (.one 14 (.pure 15 (.one 16 (.pure 17 (.pure 18 (.pure 19 (.pure 20 (.one 21 (.pure 22 (.one 23 (.one 24 (.pure 25 (.pure 26 (.pure 27 (.one 28 (.pure 29 (.one 30 (.one 31 (.pure 32 (.pure 33 .nil)))))))))))))))))))))))))))))))))) rfl ?_
 refine LP rfl rfl rfl (xfa fa36_0 rfl) ?_
 refine LX rfl rfl rfl (xld sc3 rfl (cl_bk (Le.bk hl2 hb1) rfl)) trivial ?_
 refine LP rfl rfl rfl (xfa fa36_0 rfl) ?_
 refine LX rfl rfl rfl (xld sc3 rfl (cl_bk hb2 rfl)) trivial ?_
 refine LP rfl rfl rfl (xeql rfl rfl) ?_
 refine L_is 9 (v := .bool true) rfl (by simp) ?_
 refine LP rfl rfl rfl (xmv rfl) ?_
 refine LP rfl rfl rfl (xfa fa36_2 rfl) ?_
 refine LX rfl rfl rfl (xld sc4 rfl (cl_bk (Le.bk hl2 hb1) rfl)) trivial ?_
 refine LP rfl rfl rfl (xfa fa36_2 rfl) ?_
 refine LX rfl rfl rfl (xld sc4 rfl (cl_bk hb2 rfl)) trivial ?_
 refine LP rfl rfl rfl (xbeq un4 rfl rfl) ?_
 refine L_is 15 (v := .bool true) rfl (by simp) ?_
 refine LP rfl rfl rfl (xpk1 rfl rfl) ?_
 refine LP rfl rfl rfl (xmv rfl) ?_
 refine LP rfl rfl rfl (xfa fa36_4 rfl) ?_
 refine LX rfl rfl rfl (xld sc2 rfl (cl_bk (Le.bk hl2 hb1) rfl)) trivial ?_
 refine LP rfl rfl rfl (xfa fa36_4 rfl) ?_
 refine LX rfl rfl rfl (xld sc2 rfl (cl_bk hb2 rfl)) trivial ?_
 refine LP rfl rfl rfl (xeql rfl rfl) ?_
 refine L_is 22 (v := .bool true) rfl (by simp) ?_
 refine LP rfl rfl rfl (xpk1 rfl rfl) ?_
 refine LP rfl rfl rfl (xmv rfl) ?_
 refine LP rfl rfl rfl (xfa fa36_1 rfl) ?_
 refine LX rfl rfl rfl (xlb6 ag26 (Le.bk hl2 hb1) rfl rfl rfl rfl rfl rfl rfl) trivial ?_
 refine LP rfl rfl rfl (xfa fa36_1 rfl) ?_
 refine LX rfl rfl rfl (xlb6 ag26 hb2 rfl rfl rfl rfl rfl rfl rfl) trivial ?_
 refine LF rfl rfl rfl has21 rfl (txnSame (t := ⟨t.se, t.rq, t.code, t.args, t.reads, t.writes⟩) (RdE.le (hl1.trans hl2) hac) (RdE.le (hl1.trans hl2) haa) (RdE.le (hl1.trans hl2) har) (RdE.le (hl1.trans hl2) haw) (RdE.le (hl1.trans hl2) hbc) (RdE.le (hl1.trans hl2) hba) (RdE.le (hl1.trans hl2) hbr) (RdE.le (hl1.trans hl2) hbw)) ?_
 rintro _ w3 ⟨rfl, hl3⟩
 refine ⟨trivial, ?_⟩
 refine LP rfl rfl rfl (xpk1 rfl rfl) ?_
 refine LP rfl rfl rfl (xmv rfl) ?_
 refine LP rfl rfl rfl (xfa fa36_3 rfl) ?_
 refine LX rfl rfl rfl (xld sc24 rfl (cl_bk (Le.bk (hl2.trans hl3) hb1) rfl)) trivial ?_
 refine LP rfl rfl rfl (xfa fa36_3 rfl) ?_
 refine LX rfl rfl rfl (xld sc24 rfl (cl_bk (Le.bk hl3 hb2) rfl)) trivial ?_
 refine LF rfl rfl rfl has68 rfl (same11 (RdE.le (hl1.trans (hl2.trans hl3)) hak) (RdE.le (hl1.trans (hl2.trans hl3)) hbk)) ?_
 rintro _ w4 ⟨rfl, hl4⟩
 refine ⟨trivial, ?_⟩
 refine L_is 36 (v := .bool true) rfl (by simp) ?_
 refine LP rfl rfl rfl (xpk1 rfl rfl) ?_
 refine LP rfl rfl rfl (xas rfl) ?_
 refine LZ ?_
 refine F_seq ?_
 refine W_ret ?_
 exact F_end1 rfl rfl ⟨_, rfl, rfl, (hl1.trans (hl2.trans (hl3.trans hl4)))⟩
end Go.Proofs.Ythmhbonhagjnnaa
