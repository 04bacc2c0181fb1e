/- Transactions, copied and put in order. -/
import Derived.Test.YthmhbonhagjnnaaProg
import Derived.Test.YthmhbonhagjnnaaB5
import Derived.Test.YthmhbonhagjnnaaCl
import Derived.KernelRfl
namespace Go.Proofs.Ythmhbonhagjnnaa
open Go.RowKit
set_option linter.unusedVariables false
set_option linter.unusedSimpArgs false
theorem zr26 : Zr Try.prog 26 [.int .i64 0, .int .i64 0, .slice none 0 0, .slice none 0 0, .slice none 0 0, .slice none 0 0] := Zr.of (z := .agg #[.int .i64 0, .int .i64 0, .slice none 0 0, .slice none 0 0, .slice none 0 0, .slice none 0 0]) (fun _ => by kernel_rfl) rfl
theorem has114 : Has Try.prog 114 Try.f114 := ⟨Try.func114, by kernel_rfl, rfl⟩
theorem has110 : Has Try.prog 110 Try.f110 := ⟨Try.func110, by kernel_rfl, rfl⟩
theorem sz22 : ∀ w, (sizeOf 22).run Try.prog w = .ok 1 w := fun _ => by kernel_rfl
theorem sz23 : ∀ w, (sizeOf 23).run Try.prog w = .ok 1 w := fun _ => by kernel_rfl
theorem sz24 : ∀ w, (sizeOf 24).run Try.prog w = .ok 1 w := fun _ => by kernel_rfl
theorem ag26 : Ag Try.prog 26 6 := ⟨fun _ => by kernel_rfl, fun _ => by kernel_rfl⟩
theorem sz26 : ∀ w, (sizeOf 26).run Try.prog w = .ok 6 w := fun _ => by kernel_rfl
theorem has66 : Has Try.prog 66 Try.f66 := ⟨Try.func66, by kernel_rfl, rfl⟩
theorem has96 : Has Try.prog 96 Try.f96 := ⟨Try.func96, by kernel_rfl, rfl⟩
theorem has111 : Has Try.prog 111 Try.f111 := ⟨Try.func111, by kernel_rfl, rfl⟩
theorem c_cloneT {t : Txn} {vtc vta vtr vtw : Value} {w : World} (htc : RdE w.heap ByteE vtc t.code) (hta : RdE w.heap IntE vta t.args) (htr : RdE w.heap KeyE vtr t.reads) (htw : RdE w.heap KeyE vtw t.writes) (hn : t.small) :
    Fn Try.prog 66 #[(.agg #[.int .i64 t.se, .int .i64 t.rq, vtc, vta, vtr, vtw])] w fun v w' => ∃ xc xa xr xw, v = (.agg #[.int .i64 t.se, .int .i64 t.rq, xc, xa, xr, xw]) ∧ Le w w' ∧ Ow w' w 5 ByteE xc t.code ∧ Ow w' w 2 IntE xa t.args ∧ Ow w' w 40 KeyE xr t.reads ∧ Ow w' w 40 KeyE xw t.writes ∧ Off xc.ownBlock.toList xw := by
 refine Fn.enter 20 [(0, _)] Try.func66 rfl rfl rfl rfl ?_
 obtain ⟨hnc, hna, hnr, hnw⟩ := hn
 refine W_seq ?_
 refine W_reg (.one 0 (.one 1 .nil)) rfl ?_
 refine LT rfl rfl rfl (xbox rfl) ?_
 rintro _ w1 ⟨b1, rfl, hl1, hb1, hb1z⟩
 refine ⟨trivial, ?_⟩
 refine LT rfl rfl rfl (xal zr26) ?_
 rintro _ w2 ⟨b2, rfl, hl2, hb2, hb2z⟩
 refine ⟨trivial, ?_⟩
 refine LZ ?_
 refine F_seq ?_
 refine W_seq ?_
 refine W_draw (.pure 0 (.still 1 (.pure 3 (.still 4 (.pure 6 (.still 7 (.pure 9 (.still 10 (.one 2 (.pure 12 (.one 5 (.one 8 (.one 11 (.tail 13 (.pure 14 (.tail 15 (.pure 16 (.tail 17 (.pure 18 (.tail 19 .nil)))))))))))))))))))) (Le w2) hfol (by kernel_rfl) (pkt pkB) (Le.drew _) ?_
 refine LP rfl rfl rfl (xfa fa26_2 rfl) ?_
 refine LS rfl rfl rfl (fun w' hw' => (xld sc22 rfl (cl_bk (Le.bk (hl2.trans hw') hb1) rfl))) ?_
 refine LP rfl rfl rfl (xfa fa26_3 rfl) ?_
 refine LS rfl rfl rfl (fun w' hw' => (xld sc23 rfl (cl_bk (Le.bk (hl2.trans hw') hb1) rfl))) ?_
 refine LP rfl rfl rfl (xfa fa26_4 rfl) ?_
 refine LS rfl rfl rfl (fun w' hw' => (xld sc24 rfl (cl_bk (Le.bk (hl2.trans hw') hb1) rfl))) ?_
 refine LP rfl rfl rfl (xfa fa26_5 rfl) ?_
 refine LS rfl rfl rfl (fun w' hw' => (xld sc24 rfl (cl_bk (Le.bk (hl2.trans hw') hb1) rfl))) ?_
 refine LF rfl rfl rfl has114 rfl (cloneB (RdE.le (hl1.trans (hl2.trans (Le.drew w2))) htc) (by first | omega | (simp only [List.length_append, List.length_take, List.length_drop, List.length_cons, List.length_nil]; omega))) ?_
 rintro v1 w3 ⟨hl3, ho1⟩
 refine ⟨((Le.drew w2).trans hl3), ?_⟩
 refine LP rfl rfl rfl (xfa fa26_2 rfl) ?_
 refine LF rfl rfl rfl has110 rfl (cloneI (RdE.le (hl1.trans (hl2.trans ((Le.drew w2).trans hl3))) hta) (by first | omega | (simp only [List.length_append, List.length_take, List.length_drop, List.length_cons, List.length_nil]; omega))) ?_
 rintro v2 w4 ⟨hl4, ho2⟩
 refine ⟨((Le.drew w2).trans (hl3.trans hl4)), ?_⟩
 refine LF rfl rfl rfl has115 rfl (cloneK (RdE.le (hl1.trans (hl2.trans ((Le.drew w2).trans (hl3.trans hl4)))) htr) (by first | omega | (simp only [List.length_append, List.length_take, List.length_drop, List.length_cons, List.length_nil]; omega))) ?_
 rintro v3 w5 ⟨hl5, ho3⟩
 refine ⟨((Le.drew w2).trans (hl3.trans (hl4.trans hl5))), ?_⟩
 refine LF rfl rfl rfl has115 rfl (cloneK (RdE.le (hl1.trans (hl2.trans ((Le.drew w2).trans (hl3.trans (hl4.trans hl5))))) htw) (by first | omega | (simp only [List.length_append, List.length_take, List.length_drop, List.length_cons, List.length_nil]; omega))) ?_
 rintro v4 w6 ⟨hl6, ho4⟩
 refine ⟨((Le.drew w2).trans (hl3.trans (hl4.trans (hl5.trans hl6)))), ?_⟩
 refine LUt rfl rfl (xsb sz22 (Le.bk (hl2.trans ((Le.drew w2).trans (hl3.trans (hl4.trans (hl5.trans hl6))))) hb1) rfl rfl ho1.rd.sh.cells rfl rfl (al_cons ho1.rd.sh.one al_nil)) ?_
 rintro w7 ⟨hq1, hb3⟩
 dsimp only [put] at hb3
 have hk1 := hq1.bk (ni_new hb2z (Nat.lt_of_lt_of_le (bk_lt hb1) (Nat.le_refl _)) ni_nil) (Le.bk ((Le.drew w2).trans (hl3.trans (hl4.trans (hl5.trans hl6)))) hb2)
 have hk2 := hq1.ow (Off.cons (Ow.ne_new ho1 (Nat.lt_of_lt_of_le (bk_lt hb1) (Nat.le_trans hl2.size (Le.drew w2).size))) Off.nil) (ho1.le (hl4.trans (hl5.trans hl6)))
 have hk3 := hq1.ow (Off.cons (Ow.ne_new ho2 (Nat.lt_of_lt_of_le (bk_lt hb1) (Nat.le_trans hl2.size (Nat.le_trans (Le.drew w2).size hl3.size)))) Off.nil) (ho2.le (hl5.trans hl6))
 have hk4 := hq1.ow (Off.cons (Ow.ne_new ho3 (Nat.lt_of_lt_of_le (bk_lt hb1) (Nat.le_trans hl2.size (Nat.le_trans (Le.drew w2).size (Nat.le_trans hl3.size hl4.size))))) Off.nil) (ho3.le hl6)
 have hk5 := hq1.ow (Off.cons (Ow.ne_new ho4 (Nat.lt_of_lt_of_le (bk_lt hb1) (Nat.le_trans hl2.size (Nat.le_trans (Le.drew w2).size (Nat.le_trans hl3.size (Nat.le_trans hl4.size hl5.size)))))) Off.nil) ho4
 refine LP rfl rfl rfl (xfa fa26_3 rfl) ?_
 refine LUt rfl rfl (xsb sz23 hb3 rfl rfl hk3.rd.sh.cells rfl rfl (al_cons hk3.rd.sh.one al_nil)) ?_
 rintro w8 ⟨hq2, hb4⟩
 dsimp only [put] at hb4
 have hk6 := hq2.ow (Off.cons (Ow.ne_new ho1 (Nat.lt_of_lt_of_le (bk_lt hb1) (Nat.le_trans hl2.size (Le.drew w2).size))) Off.nil) hk2
 have hk7 := hq2.bk (ni_new hb2z (Nat.lt_of_lt_of_le (bk_lt hb1) (Nat.le_refl _)) ni_nil) hk1
 have hk8 := hq2.ow (Off.cons (Ow.ne_new ho2 (Nat.lt_of_lt_of_le (bk_lt hb1) (Nat.le_trans hl2.size (Nat.le_trans (Le.drew w2).size hl3.size)))) Off.nil) hk3
 have hk9 := hq2.ow (Off.cons (Ow.ne_new ho3 (Nat.lt_of_lt_of_le (bk_lt hb1) (Nat.le_trans hl2.size (Nat.le_trans (Le.drew w2).size (Nat.le_trans hl3.size hl4.size))))) Off.nil) hk4
 have hk10 := hq2.ow (Off.cons (Ow.ne_new ho4 (Nat.lt_of_lt_of_le (bk_lt hb1) (Nat.le_trans hl2.size (Nat.le_trans (Le.drew w2).size (Nat.le_trans hl3.size (Nat.le_trans hl4.size hl5.size)))))) Off.nil) hk5
 refine LP rfl rfl rfl (xfa fa26_4 rfl) ?_
 refine LUt rfl rfl (xsb sz24 hb4 rfl rfl hk9.rd.sh.cells rfl rfl (al_cons hk9.rd.sh.one al_nil)) ?_
 rintro w9 ⟨hq3, hb5⟩
 dsimp only [put] at hb5
 have hk11 := hq3.ow (Off.cons (Ow.ne_new ho1 (Nat.lt_of_lt_of_le (bk_lt hb1) (Nat.le_trans hl2.size (Le.drew w2).size))) Off.nil) hk6
 have hk12 := hq3.ow (Off.cons (Ow.ne_new ho2 (Nat.lt_of_lt_of_le (bk_lt hb1) (Nat.le_trans hl2.size (Nat.le_trans (Le.drew w2).size hl3.size)))) Off.nil) hk8
 have hk13 := hq3.bk (ni_new hb2z (Nat.lt_of_lt_of_le (bk_lt hb1) (Nat.le_refl _)) ni_nil) hk7
 have hk14 := hq3.ow (Off.cons (Ow.ne_new ho3 (Nat.lt_of_lt_of_le (bk_lt hb1) (Nat.le_trans hl2.size (Nat.le_trans (Le.drew w2).size (Nat.le_trans hl3.size hl4.size))))) Off.nil) hk9
 have hk15 := hq3.ow (Off.cons (Ow.ne_new ho4 (Nat.lt_of_lt_of_le (bk_lt hb1) (Nat.le_trans hl2.size (Nat.le_trans (Le.drew w2).size (Nat.le_trans hl3.size (Nat.le_trans hl4.size hl5.size)))))) Off.nil) hk10
 refine LP rfl rfl rfl (xfa fa26_5 rfl) ?_
 refine LUt rfl rfl (xsb sz24 hb5 rfl rfl hk15.rd.sh.cells rfl rfl (al_cons hk15.rd.sh.one al_nil)) ?_
 rintro w10 ⟨hq4, hb6⟩
 dsimp only [put] at hb6
 have hk16 := hq4.ow (Off.cons (Ow.ne_new ho1 (Nat.lt_of_lt_of_le (bk_lt hb1) (Nat.le_trans hl2.size (Le.drew w2).size))) Off.nil) hk11
 have hk17 := hq4.ow (Off.cons (Ow.ne_new ho2 (Nat.lt_of_lt_of_le (bk_lt hb1) (Nat.le_trans hl2.size (Nat.le_trans (Le.drew w2).size hl3.size)))) Off.nil) hk12
 have hk18 := hq4.ow (Off.cons (Ow.ne_new ho3 (Nat.lt_of_lt_of_le (bk_lt hb1) (Nat.le_trans hl2.size (Nat.le_trans (Le.drew w2).size (Nat.le_trans hl3.size hl4.size))))) Off.nil) hk14
 have hk19 := hq4.bk (ni_new hb2z (Nat.lt_of_lt_of_le (bk_lt hb1) (Nat.le_refl _)) ni_nil) hk13
 have hk20 := hq4.ow (Off.cons (Ow.ne_new ho4 (Nat.lt_of_lt_of_le (bk_lt hb1) (Nat.le_trans hl2.size (Nat.le_trans (Le.drew w2).size (Nat.le_trans hl3.size (Nat.le_trans hl4.size hl5.size)))))) Off.nil) hk15
 refine LZ ?_
 refine F_seq ?_
 refine W_seq ?_
 refine W_reg (.one 0 (.one 1 .nil)) rfl ?_
 refine LX rfl rfl rfl (xlb6 ag26 hb6 rfl rfl rfl rfl rfl rfl rfl) trivial ?_
 refine LU rfl rfl (xsb sz26 hk19 rfl rfl (agg_cells _) rfl rfl (al_cons rfl (al_cons rfl (al_cons hk16.rd.sh.one (al_cons hk17.rd.sh.one (al_cons hk18.rd.sh.one (al_cons hk20.rd.sh.one al_nil))))))) ?_
 rintro w11 ⟨hq5, hb7⟩
 dsimp only [put] at hb7
 have hk21 := hq5.bk (ni_old (Nat.lt_of_lt_of_le (bk_lt hb1) (Nat.le_refl _)) hb2z ni_nil) hb6
 have hk22 := hq5.ow (Off.cons (Ow.ne_new ho1 (Nat.lt_of_lt_of_le (bk_lt hb2) (Le.drew w2).size)) Off.nil) hk16
 have hk23 := hq5.ow (Off.cons (Ow.ne_new ho2 (Nat.lt_of_lt_of_le (bk_lt hb2) (Nat.le_trans (Le.drew w2).size hl3.size))) Off.nil) hk17
 have hk24 := hq5.ow (Off.cons (Ow.ne_new ho3 (Nat.lt_of_lt_of_le (bk_lt hb2) (Nat.le_trans (Le.drew w2).size (Nat.le_trans hl3.size hl4.size)))) Off.nil) hk18
 have hk25 := hq5.ow (Off.cons (Ow.ne_new ho4 (Nat.lt_of_lt_of_le (bk_lt hb2) (Nat.le_trans (Le.drew w2).size (Nat.le_trans hl3.size (Nat.le_trans hl4.size hl5.size))))) Off.nil) hk20
 refine ⟨trivial, ?_⟩
 refine LZ ?_
 refine F_seq ?_
 refine W_ret ?_
 have le1 : Le w w7 := (hq1.le (hl1.trans (hl2.trans ((Le.drew w2).trans (hl3.trans (hl4.trans (hl5.trans hl6)))))) (inc (Nat.le_refl _) hb1z inn))
 have le2 : Le w w8 := (hq2.le le1 (inc (Nat.le_refl _) hb1z inn))
 have le3 : Le w w9 := (hq3.le le2 (inc (Nat.le_refl _) hb1z inn))
 have le4 : Le w w10 := (hq4.le le3 (inc (Nat.le_refl _) hb1z inn))
 have le5 : Le w w11 := (hq5.le le4 (inc hl1.size hb2z inn))
 exact F_endR (rs := [.cell 2 26]) rfl (.cell rfl (run_ld0 ag26 hb7 rfl) .nil) rfl ⟨_, rfl, _, _, _, _, rfl, le5, (hk22).base (Nat.le_trans hl1.size (Nat.le_trans hl2.size (Le.drew w2).size)), (hk23).base (Nat.le_trans hl1.size (Nat.le_trans hl2.size (Nat.le_trans (Le.drew w2).size hl3.size))), (hk24).base (Nat.le_trans hl1.size (Nat.le_trans hl2.size (Nat.le_trans (Le.drew w2).size (Nat.le_trans hl3.size hl4.size)))), (hk25).base (Nat.le_trans hl1.size (Nat.le_trans hl2.size (Nat.le_trans (Le.drew w2).size (Nat.le_trans hl3.size (Nat.le_trans hl4.size hl5.size))))), (Ow.off_new ho4 ho1 (Nat.le_trans hl4.size hl5.size))⟩
theorem c_normT {t : Txn} {vtc vta vtr vtw : Value} {w : World} (htc : RdE w.heap ByteE vtc t.code) (hta : RdE w.heap IntE vta t.args) (htr : RdE w.heap KeyE vtr t.reads) (htw : RdE w.heap KeyE vtw t.writes) (hn : t.small) :
    Fn Try.prog 61 #[(.agg #[.int .i64 t.se, .int .i64 t.rq, vtc, vta, vtr, vtw])] w fun v w' => ∃ xc xa xr xw, v = (.agg #[.int .i64 t.se, .int .i64 t.rq, xc, xa, xr, xw]) ∧ Le w w' ∧ Ow w' w 5 ByteE xc t.code ∧ Ow w' w 2 IntE xa t.args ∧ Ow w' w 40 KeyE xr (keysOf t.reads) ∧ Ow w' w 40 KeyE xw (keysOf t.writes) := by
 refine Fn.enter 14 [(0, _)] Try.func61 rfl rfl rfl rfl ?_
 obtain ⟨hnc, hna, hnr, hnw⟩ := hn
 refine W_seq ?_
 refine W_reg (.one 0 (.one 1 .nil)) rfl ?_
 refine LT rfl rfl rfl (xbox rfl) ?_
 rintro _ w1 ⟨b1, rfl, hl1, hb1, hb1z⟩
 refine ⟨trivial, ?_⟩
 refine LT rfl rfl rfl (xal zr26) ?_
 rintro _ w2 ⟨b2, rfl, hl2, hb2, hb2z⟩
 refine ⟨trivial, ?_⟩
 refine LZ ?_
 refine F_seq ?_
 refine W_seq ?_
 refine W_reg (.one 0 (.one 1 (.one 2 .nil))) rfl ?_
 refine LX rfl rfl rfl (xlb6 ag26 (Le.bk hl2 hb1) rfl rfl rfl rfl rfl rfl rfl) trivial ?_
 refine LF rfl rfl rfl has66 rfl (c_cloneT (t := ⟨t.se, t.rq, t.code, t.args, t.reads, t.writes⟩) (RdE.le (hl1.trans hl2) htc) (RdE.le (hl1.trans hl2) hta) (RdE.le (hl1.trans hl2) htr) (RdE.le (hl1.trans hl2) htw) ⟨(by first | omega | (simp only [List.length_append, List.length_take, List.length_drop, List.length_cons, List.length_nil]; omega)), (by first | omega | (simp only [List.length_append, List.length_take, List.length_drop, List.length_cons, List.length_nil]; omega)), (by first | omega | (simp only [List.length_append, List.length_take, List.length_drop, List.length_cons, List.length_nil]; omega)), (by first | omega | (simp only [List.length_append, List.length_take, List.length_drop, List.length_cons, List.length_nil]; omega))⟩) ?_
 rintro _ w3 ⟨xc1, xa1, xr1, xw1, rfl, hl3, ho1, ho2, ho3, ho4, hof1⟩
 refine ⟨trivial, ?_⟩
 refine LU rfl rfl (xsb sz26 (Le.bk (hl2.trans hl3) hb1) rfl rfl (agg_cells _) rfl rfl (al_cons rfl (al_cons rfl (al_cons ho1.rd.sh.one (al_cons ho2.rd.sh.one (al_cons ho3.rd.sh.one (al_cons ho4.rd.sh.one al_nil))))))) ?_
 rintro w4 ⟨hq1, hb3⟩
 dsimp only [put] at hb3
 have hk1 := hq1.bk (ni_new hb2z (Nat.lt_of_lt_of_le (bk_lt hb1) (Nat.le_refl _)) ni_nil) (Le.bk hl3 hb2)
 have hk2 := hq1.ow (Off.cons (Ow.ne_new ho1 (Nat.lt_of_lt_of_le (bk_lt hb1) hl2.size)) Off.nil) ho1
 have hk3 := hq1.ow (Off.cons (Ow.ne_new ho2 (Nat.lt_of_lt_of_le (bk_lt hb1) hl2.size)) Off.nil) ho2
 have hk4 := hq1.ow (Off.cons (Ow.ne_new ho3 (Nat.lt_of_lt_of_le (bk_lt hb1) hl2.size)) Off.nil) ho3
 have hk5 := hq1.ow (Off.cons (Ow.ne_new ho4 (Nat.lt_of_lt_of_le (bk_lt hb1) hl2.size)) Off.nil) ho4
 refine ⟨trivial, ?_⟩
 refine LZ ?_
 refine F_seq ?_
 refine W_seq ?_
 refine W_draw (.pure 0 (.still 1 (.pure 3 (.still 4 (.one 2 (.pure 6 (.one 5 (.tail 7 (.pure 8 (.tail 9 .nil)))))))))) (Le w4) hfol (by kernel_rfl) (pkt pkB) (Le.drew _) ?_
 refine LP rfl rfl rfl (xfa fa26_4 rfl) ?_
 refine LS rfl rfl rfl (fun w' hw' => (xld sc24 rfl (cl_bk (Le.bk hw' hb3) rfl))) ?_
 refine LP rfl rfl rfl (xfa fa26_5 rfl) ?_
 refine LS rfl rfl rfl (fun w' hw' => (xld sc24 rfl (cl_bk (Le.bk hw' hb3) rfl))) ?_
 refine LF rfl rfl rfl has96 rfl (shkeys (RdE.le (Le.drew w4) hk4.rd) (by first | omega | (simp only [List.length_append, List.length_take, List.length_drop, List.length_cons, List.length_nil]; omega))) ?_
 rintro v1 w5 ⟨hl4, ho5⟩
 refine ⟨((Le.drew w4).trans hl4), ?_⟩
 refine LP rfl rfl rfl (xfa fa26_4 rfl) ?_
 refine LF rfl rfl rfl has96 rfl (shkeys (RdE.le ((Le.drew w4).trans hl4) hk5.rd) (by first | omega | (simp only [List.length_append, List.length_take, List.length_drop, List.length_cons, List.length_nil]; omega))) ?_
 rintro v2 w6 ⟨hl5, ho6⟩
 refine ⟨((Le.drew w4).trans (hl4.trans hl5)), ?_⟩
 refine LUt rfl rfl (xsb sz24 (Le.bk ((Le.drew w4).trans (hl4.trans hl5)) hb3) rfl rfl ho5.rd.sh.cells rfl rfl (al_cons ho5.rd.sh.one al_nil)) ?_
 rintro w7 ⟨hq2, hb4⟩
 dsimp only [put] at hb4
 have hk6 := hq2.ow (Off.cons (Ow.ne_new ho1 (Nat.lt_of_lt_of_le (bk_lt hb1) hl2.size)) Off.nil) (hk2.le ((Le.drew w4).trans (hl4.trans hl5)))
 have hk7 := hq2.ow (Off.cons (Ow.ne_new ho2 (Nat.lt_of_lt_of_le (bk_lt hb1) hl2.size)) Off.nil) (hk3.le ((Le.drew w4).trans (hl4.trans hl5)))
 have hk8 := hq2.ow (Off.cons (Ow.ne_new ho3 (Nat.lt_of_lt_of_le (bk_lt hb1) hl2.size)) Off.nil) (hk4.le ((Le.drew w4).trans (hl4.trans hl5)))
 have hk9 := hq2.ow (Off.cons (Ow.ne_new ho4 (Nat.lt_of_lt_of_le (bk_lt hb1) hl2.size)) Off.nil) (hk5.le ((Le.drew w4).trans (hl4.trans hl5)))
 have hk10 := hq2.bk (ni_new hb2z (Nat.lt_of_lt_of_le (bk_lt hb1) (Nat.le_refl _)) ni_nil) (Le.bk ((Le.drew w4).trans (hl4.trans hl5)) hk1)
 have hk11 := hq2.ow (Off.cons (Ow.ne_new ho5 (Nat.lt_of_lt_of_le (bk_lt hb1) (Nat.le_trans hl2.size (Nat.le_trans hl3.size (Nat.le_trans hq1.size (Le.drew w4).size))))) Off.nil) (ho5.le hl5)
 have hk12 := hq2.ow (Off.cons (Ow.ne_new ho6 (Nat.lt_of_lt_of_le (bk_lt hb1) (Nat.le_trans hl2.size (Nat.le_trans hl3.size (Nat.le_trans hq1.size (Nat.le_trans (Le.drew w4).size hl4.size)))))) Off.nil) ho6
 refine LP rfl rfl rfl (xfa fa26_5 rfl) ?_
 refine LUt rfl rfl (xsb sz24 hb4 rfl rfl hk12.rd.sh.cells rfl rfl (al_cons hk12.rd.sh.one al_nil)) ?_
 rintro w8 ⟨hq3, hb5⟩
 dsimp only [put] at hb5
 have hk13 := hq3.ow (Off.cons (Ow.ne_new ho1 (Nat.lt_of_lt_of_le (bk_lt hb1) hl2.size)) Off.nil) hk6
 have hk14 := hq3.ow (Off.cons (Ow.ne_new ho2 (Nat.lt_of_lt_of_le (bk_lt hb1) hl2.size)) Off.nil) hk7
 have hk15 := hq3.ow (Off.cons (Ow.ne_new ho5 (Nat.lt_of_lt_of_le (bk_lt hb1) (Nat.le_trans hl2.size (Nat.le_trans hl3.size (Nat.le_trans hq1.size (Le.drew w4).size))))) Off.nil) hk11
 have hk16 := hq3.ow (Off.cons (Ow.ne_new ho4 (Nat.lt_of_lt_of_le (bk_lt hb1) hl2.size)) Off.nil) hk9
 have hk17 := hq3.bk (ni_new hb2z (Nat.lt_of_lt_of_le (bk_lt hb1) (Nat.le_refl _)) ni_nil) hk10
 have hk18 := hq3.ow (Off.cons (Ow.ne_new ho3 (Nat.lt_of_lt_of_le (bk_lt hb1) hl2.size)) Off.nil) hk8
 have hk19 := hq3.ow (Off.cons (Ow.ne_new ho6 (Nat.lt_of_lt_of_le (bk_lt hb1) (Nat.le_trans hl2.size (Nat.le_trans hl3.size (Nat.le_trans hq1.size (Nat.le_trans (Le.drew w4).size hl4.size)))))) Off.nil) hk12
 refine LZ ?_
 refine F_seq ?_
 refine W_seq ?_
 refine W_reg (.one 0 (.one 1 .nil)) rfl ?_
 refine LX rfl rfl rfl (xlb6 ag26 hb5 rfl rfl rfl rfl rfl rfl rfl) trivial ?_
 refine LU rfl rfl (xsb sz26 hk17 rfl rfl (agg_cells _) rfl rfl (al_cons rfl (al_cons rfl (al_cons hk13.rd.sh.one (al_cons hk14.rd.sh.one (al_cons hk15.rd.sh.one (al_cons hk19.rd.sh.one al_nil))))))) ?_
 rintro w9 ⟨hq4, hb6⟩
 dsimp only [put] at hb6
 have hk20 := hq4.bk (ni_old (Nat.lt_of_lt_of_le (bk_lt hb1) (Nat.le_refl _)) hb2z ni_nil) hb5
 have hk21 := hq4.ow (Off.cons (Ow.ne_new ho1 (Nat.lt_of_lt_of_le (bk_lt hb2) (Nat.le_refl _))) Off.nil) hk13
 have hk22 := hq4.ow (Off.cons (Ow.ne_new ho2 (Nat.lt_of_lt_of_le (bk_lt hb2) (Nat.le_refl _))) Off.nil) hk14
 have hk23 := hq4.ow (Off.cons (Ow.ne_new ho5 (Nat.lt_of_lt_of_le (bk_lt hb2) (Nat.le_trans hl3.size (Nat.le_trans hq1.size (Le.drew w4).size)))) Off.nil) hk15
 have hk24 := hq4.ow (Off.cons (Ow.ne_new ho6 (Nat.lt_of_lt_of_le (bk_lt hb2) (Nat.le_trans hl3.size (Nat.le_trans hq1.size (Nat.le_trans (Le.drew w4).size hl4.size))))) Off.nil) hk19
 have hk25 := hq4.ow (Off.cons (Ow.ne_new ho3 (Nat.lt_of_lt_of_le (bk_lt hb2) (Nat.le_refl _))) Off.nil) hk18
 have hk26 := hq4.ow (Off.cons (Ow.ne_new ho4 (Nat.lt_of_lt_of_le (bk_lt hb2) (Nat.le_refl _))) Off.nil) hk16
 refine ⟨trivial, ?_⟩
 refine LZ ?_
 refine F_seq ?_
 refine W_ret ?_
 have le1 : Le w w4 := (hq1.le (hl1.trans (hl2.trans hl3)) (inc (Nat.le_refl _) hb1z inn))
 have le2 : Le w w7 := (hq2.le (le1.trans ((Le.drew w4).trans (hl4.trans hl5))) (inc (Nat.le_refl _) hb1z inn))
 have le3 : Le w w8 := (hq3.le le2 (inc (Nat.le_refl _) hb1z inn))
 have le4 : Le w w9 := (hq4.le le3 (inc hl1.size hb2z inn))
 exact F_endR (rs := [.cell 2 26]) rfl (.cell rfl (run_ld0 ag26 hb6 rfl) .nil) rfl ⟨_, rfl, _, _, _, _, rfl, le4, (hk21).base (Nat.le_trans hl1.size hl2.size), (hk22).base (Nat.le_trans hl1.size hl2.size), (hk23).base (Nat.le_trans hl1.size (Nat.le_trans hl2.size (Nat.le_trans hl3.size (Nat.le_trans hq1.size (Le.drew w4).size)))), (hk24).base (Nat.le_trans hl1.size (Nat.le_trans hl2.size (Nat.le_trans hl3.size (Nat.le_trans hq1.size (Nat.le_trans (Le.drew w4).size hl4.size)))))⟩
theorem r_normT {t : Txn} {vtc vta vtr vtw : Value} {w : World} (htc : RdE w.heap ByteE vtc t.code) (hta : RdE w.heap IntE vta t.args) (htr : RdE w.heap KeyE vtr t.reads) (htw : RdE w.heap KeyE vtw t.writes) (hn : t.small) :
    Fn Try.prog 64 #[(.agg #[.int .i64 t.se, .int .i64 t.rq, vtc, vta, vtr, vtw])] w fun v w' => ∃ xr xw, v = (.agg #[.int .i64 t.se, .int .i64 t.rq, vtc, vta, xr, xw]) ∧ Le w w' ∧ Ow w' w 40 KeyE xr (keysOf t.reads) ∧ Ow w' w 40 KeyE xw (keysOf t.writes) := by
 refine Fn.enter 12 [(0, _)] Try.func64 rfl rfl rfl rfl ?_
 obtain ⟨hnc, hna, hnr, hnw⟩ := hn
 refine W_seq ?_
 refine W_reg (.one 0 (.one 1 .nil)) rfl ?_
 refine LT rfl rfl rfl (xbox rfl) ?_
 rintro _ w1 ⟨b1, rfl, hl1, hb1, hb1z⟩
 refine ⟨trivial, ?_⟩
 refine LT rfl rfl rfl (xal zr26) ?_
 rintro _ w2 ⟨b2, rfl, hl2, hb2, hb2z⟩
 refine ⟨trivial, ?_⟩
 refine LZ ?_
 refine F_seq ?_
 refine W_seq ?_
 refine W_draw (.pure 0 (.still 1 (.pure 3 (.still 4 (.one 2 (.pure 6 (.one 5 (.tail 7 (.pure 8 (.tail 9 .nil)))))))))) (Le w2) hfol (by kernel_rfl) (pkt pkB) (Le.drew _) ?_
 refine LP rfl rfl rfl (xfa fa26_4 rfl) ?_
 refine LS rfl rfl rfl (fun w' hw' => (xld sc24 rfl (cl_bk (Le.bk (hl2.trans hw') hb1) rfl))) ?_
 refine LP rfl rfl rfl (xfa fa26_5 rfl) ?_
 refine LS rfl rfl rfl (fun w' hw' => (xld sc24 rfl (cl_bk (Le.bk (hl2.trans hw') hb1) rfl))) ?_
 refine LF rfl rfl rfl has111 rfl (keys11 (RdE.le (hl1.trans (hl2.trans (Le.drew w2))) htr) (by first | omega | (simp only [List.length_append, List.length_take, List.length_drop, List.length_cons, List.length_nil]; omega))) ?_
 rintro v1 w3 ⟨hl3, ho1⟩
 refine ⟨((Le.drew w2).trans hl3), ?_⟩
 refine LP rfl rfl rfl (xfa fa26_4 rfl) ?_
 refine LF rfl rfl rfl has111 rfl (keys11 (RdE.le (hl1.trans (hl2.trans ((Le.drew w2).trans hl3))) htw) (by first | omega | (simp only [List.length_append, List.length_take, List.length_drop, List.length_cons, List.length_nil]; omega))) ?_
 rintro v2 w4 ⟨hl4, ho2⟩
 refine ⟨((Le.drew w2).trans (hl3.trans hl4)), ?_⟩
 refine LUt rfl rfl (xsb sz24 (Le.bk (hl2.trans ((Le.drew w2).trans (hl3.trans hl4))) hb1) rfl rfl ho1.rd.sh.cells rfl rfl (al_cons ho1.rd.sh.one al_nil)) ?_
 rintro w5 ⟨hq1, hb3⟩
 dsimp only [put] at hb3
 have hk1 := hq1.bk (ni_new hb2z (Nat.lt_of_lt_of_le (bk_lt hb1) (Nat.le_refl _)) ni_nil) (Le.bk ((Le.drew w2).trans (hl3.trans hl4)) hb2)
 have hk2 := hq1.ow (Off.cons (Ow.ne_new ho1 (Nat.lt_of_lt_of_le (bk_lt hb1) (Nat.le_trans hl2.size (Le.drew w2).size))) Off.nil) (ho1.le hl4)
 have hk3 := hq1.ow (Off.cons (Ow.ne_new ho2 (Nat.lt_of_lt_of_le (bk_lt hb1) (Nat.le_trans hl2.size (Nat.le_trans (Le.drew w2).size hl3.size)))) Off.nil) ho2
 refine LP rfl rfl rfl (xfa fa26_5 rfl) ?_
 refine LUt rfl rfl (xsb sz24 hb3 rfl rfl hk3.rd.sh.cells rfl rfl (al_cons hk3.rd.sh.one al_nil)) ?_
 rintro w6 ⟨hq2, hb4⟩
 dsimp only [put] at hb4
 have hk4 := hq2.ow (Off.cons (Ow.ne_new ho1 (Nat.lt_of_lt_of_le (bk_lt hb1) (Nat.le_trans hl2.size (Le.drew w2).size))) Off.nil) hk2
 have hk5 := hq2.bk (ni_new hb2z (Nat.lt_of_lt_of_le (bk_lt hb1) (Nat.le_refl _)) ni_nil) hk1
 have hk6 := hq2.ow (Off.cons (Ow.ne_new ho2 (Nat.lt_of_lt_of_le (bk_lt hb1) (Nat.le_trans hl2.size (Nat.le_trans (Le.drew w2).size hl3.size)))) Off.nil) hk3
 refine LZ ?_
 refine F_seq ?_
 refine W_seq ?_
 refine W_reg (.one 0 (.one 1 .nil)) rfl ?_
 refine LX rfl rfl rfl (xlb6 ag26 hb4 rfl rfl rfl rfl rfl rfl rfl) trivial ?_
 refine LU rfl rfl (xsb sz26 hk5 rfl rfl (agg_cells _) rfl rfl (al_cons rfl (al_cons rfl (al_cons htc.sh.one (al_cons hta.sh.one (al_cons hk4.rd.sh.one (al_cons hk6.rd.sh.one al_nil))))))) ?_
 rintro w7 ⟨hq3, hb5⟩
 dsimp only [put] at hb5
 have hk7 := hq3.bk (ni_old (Nat.lt_of_lt_of_le (bk_lt hb1) (Nat.le_refl _)) hb2z ni_nil) hb4
 have hk8 := hq3.ow (Off.cons (Ow.ne_new ho1 (Nat.lt_of_lt_of_le (bk_lt hb2) (Le.drew w2).size)) Off.nil) hk4
 have hk9 := hq3.ow (Off.cons (Ow.ne_new ho2 (Nat.lt_of_lt_of_le (bk_lt hb2) (Nat.le_trans (Le.drew w2).size hl3.size))) Off.nil) hk6
 refine ⟨trivial, ?_⟩
 refine LZ ?_
 refine F_seq ?_
 refine W_ret ?_
 have le1 : Le w w5 := (hq1.le (hl1.trans (hl2.trans ((Le.drew w2).trans (hl3.trans hl4)))) (inc (Nat.le_refl _) hb1z inn))
 have le2 : Le w w6 := (hq2.le le1 (inc (Nat.le_refl _) hb1z inn))
 have le3 : Le w w7 := (hq3.le le2 (inc hl1.size hb2z inn))
 exact F_endR (rs := [.cell 2 26]) rfl (.cell rfl (run_ld0 ag26 hb5 rfl) .nil) rfl ⟨_, rfl, _, _, rfl, le3, (hk8).base (Nat.le_trans hl1.size (Nat.le_trans hl2.size (Le.drew w2).size)), (hk9).base (Nat.le_trans hl1.size (Nat.le_trans hl2.size (Nat.le_trans (Le.drew w2).size hl3.size)))⟩
end Go.Proofs.Ythmhbonhagjnnaa
