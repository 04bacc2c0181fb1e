/- Procedures: what panics. -/
import Derived.Test.YthmhbonhagjnnaaProg
import Derived.Test.YthmhbonhagjnnaaB2
import Derived.Test.YthmhbonhagjnnaaDf
import Derived.KernelRfl
namespace Go.Proofs.Ythmhbonhagjnnaa
open Go.RowKit
set_option linter.unusedVariables false
set_option linter.unusedSimpArgs false
theorem bd211_0i : ∀ (x0_0 : Int), BD Try.prog 211 [(0, .int .i64 x0_0)] #[.int .i64 x0_0] := fun _ => fun _ => by kernel_rfl
theorem st211 : Try.prog.underlying 211 = some (.struct (Try.prog.fieldsOf 211)) := by kernel_rfl
theorem has143 : Has Try.prog 143 Try.f143 := ⟨Try.func143, by kernel_rfl, rfl⟩
theorem has120 : Has Try.prog 120 Try.f120 := ⟨Try.func120, by kernel_rfl, rfl⟩
theorem zr211 : Zr Try.prog 211 [.int .i64 0] := Zr.of (z := .agg #[.int .i64 0]) (fun _ => by kernel_rfl) rfl
theorem sz211 : ∀ w, (sizeOf 211).run Try.prog w = .ok 1 w := fun _ => by kernel_rfl
theorem fa211_0 : FA Try.prog 211 0 0 := fun _ _ _ => by kernel_rfl
theorem sc28 : Sc Try.prog 28 := fun _ => by kernel_rfl
theorem c_must {e : Int} {w : World} :
    FnP Try.prog 120 #[.int .i64 e] w (fun v w' => e = 0 ∧ Le w w') (fun c w' => e ≠ 0 ∧ c = [{ v := .iface 211 (.agg #[.int .i64 e]), recovered := false }] ∧ Le w w') := by
 refine FnP.enter 7 [(0, _)] Try.func120 rfl rfl rfl rfl ?_
 refine W_seq ?_
 refine W_reg (.pure 0 (.pure 1 .nil)) rfl ?_
 refine LP rfl rfl rfl (xmv rfl) ?_
 refine LP rfl rfl rfl (xneq rfl rfl) ?_
 refine LZ ?_
 refine F_seq ?_
 refine W_cond rfl (fun c1 => ?_) (fun c1 => ?_)
 · -- c1 yes
  try simp only [Bool.not_eq_true', Bool.not_eq_false', decide_eq_true_eq, decide_eq_false_iff_not] at c1
  refine W_reg (.pure 0 (.pure 1 (.pure 2 (.one 3 .nil)))) rfl ?_
  refine LP rfl rfl rfl (xmv rfl) ?_
  refine LP rfl rfl rfl (xbd rfl (bd211_0i e)) ?_
  refine LP rfl rfl rfl (xmi st211 rfl rfl) ?_
  refine LPn rfl rfl rfl ?_
  exact F_p_end (pn_p ⟨by simpa using c1, rfl, (Le.refl _)⟩)
 · -- c1 no
  try simp only [Bool.not_eq_true', Bool.not_eq_false', decide_eq_true_eq, decide_eq_false_iff_not] at c1
  refine W_skip ?_
  exact F_end0 rfl (pn_r ⟨by simpa using c1, (Le.refl _)⟩)
theorem c_all {vb : Value} {b : List Int} {w : World} (hb : RdE w.heap ByteE vb b) (hB : ∀ x ∈ b, 0 ≤ x ∧ x ≤ 255) (hn : b.length ≤ 4294967296) :
    FnP Try.prog 118 #[vb] w (fun v w' => (walkR b).2 = 0 ∧ Le w w' ∧ Ow w' w 145 InstrE v (walkR b).1) (fun c w' => (walkR b).2 ≠ 0 ∧ c = [{ v := .iface 211 (.agg #[.int .i64 (walkR b).2]), recovered := false }] ∧ Le w w') := by
 refine FnP.enter 27 [(0, _)] Try.func118 rfl rfl rfl rfl ?_
 have hzb := hb.sh.le
 refine W_seq ?_
 refine W_reg (.pure 0 .nil) rfl ?_
 refine LP rfl rfl rfl (xas rfl) ?_
 refine LZ ?_
 refine F_seq ?_
 refine W_seq ?_
 refine W_reg (.pure 0 .nil) rfl ?_
 refine LP rfl rfl rfl (xas rfl) ?_
 refine LZ ?_
 refine F_seq ?_
 refine W_seq ?_
 refine W_seq ?_
 refine W_reg (.pure 0 .nil) rfl ?_
 refine LP rfl rfl rfl (xas rfl) ?_
 refine LZ ?_
 refine F_seq ?_
 refine W_block ?_
 refine W_loopv (ι := Nat × Int × Value × (List Instr)) (fun ⟨k, p, vo, acc⟩ => [(3, vo), (4, .int .i64 p)]) (fun ⟨k, p, vo, acc⟩ w' => Le w w' ∧ walkR b = (acc ++ (walkF b k p).1, (walkF b k p).2) ∧ (b.length : Int) - p ≤ k ∧ (acc.length : Int) ≤ p ∧ Ow w' w 145 InstrE vo acc) (fun ⟨k, p, vo, acc⟩ => k) ⟨b.length, 0, .slice none 0 0, []⟩ (hvc rfl (hvc rfl hvn)) ⟨Le.refl _, rfl, by simp, by simp, Ow.nil _ _ _ _⟩ ?_
 rintro ⟨k, p, vo, acc⟩ w1 ⟨hl1, hw, hkp, hap, ho⟩
 show W _ _ _ _ _ ([(3, vo), (4, .int .i64 p)] ++ _) _
 refine W_seq ?_
 refine W_seq ?_
 refine W_reg (.pure 0 (.pure 1 (.pure 2 (.pure 3 .nil)))) rfl ?_
 refine LP rfl rfl rfl (xmv rfl) ?_
 refine LP rfl rfl rfl (xmv rfl) ?_
 refine LP rfl rfl rfl (xlen un22 hb.sh rfl) ?_
 refine LP rfl rfl rfl (xlss rfl rfl) ?_
 refine LZ ?_
 refine F_seq ?_
 refine W_cond rfl (fun c1 => ?_) (fun c1 => ?_)
 · -- c1 yes
  replace c1 := of_decide_eq_true c1
  refine W_skip ?_
  refine F_seq ?_
  refine W_block ?_
  refine W_seq ?_
  refine W_reg (.pure 0 (.pure 1 (.one 2 (.pure 3 (.pure 4 (.pure 5 (.pure 6 (.one 7 (.one 8 (.pure 9 (.pure 10 .nil))))))))))) rfl ?_
  refine LP rfl rfl rfl (xmv rfl) ?_
  refine LP rfl rfl rfl (xmv rfl) ?_
  refine LF rfl rfl rfl has143 rfl (c_one (RdE.le hl1 hb) hB) ?_
  rintro _ w2 ⟨rfl, hl2⟩
  refine ⟨trivial, ?_⟩
  refine LP rfl rfl rfl (xmv rfl) ?_
  refine LP rfl rfl rfl (xext rfl rfl) ?_
  refine LP rfl rfl rfl (xext rfl rfl) ?_
  refine LP rfl rfl rfl (xext rfl rfl) ?_
  refine LT rfl rfl rfl (xal zr145) ?_
  rintro _ w3 ⟨b1, rfl, hl3, hb1, hb1z⟩
  refine ⟨trivial, ?_⟩
  refine LU rfl rfl (xsb sz145 hb1 rfl rfl (agg_cells [.int .i64 ((oneR b p).1).1, .int .i64 ((oneR b p).1).2.1, .int .i64 ((oneR b p).1).2.2.1, .int .i64 ((oneR b p).1).2.2.2.1, .int .i64 ((oneR b p).1).2.2.2.2]) rfl rfl (al_cons rfl (al_cons rfl (al_cons rfl (al_cons rfl (al_cons rfl al_nil)))))) ?_
  rintro w4 ⟨hq1, hb2⟩
  dsimp only [put] at hb2
  refine ⟨trivial, ?_⟩
  refine LP rfl rfl rfl (xas rfl) ?_
  refine LP rfl rfl rfl (xas rfl) ?_
  refine LZ ?_
  refine F_seq ?_
  refine W_seq ?_
  refine W_reg (.pure 0 (.one 1 .nil)) rfl ?_
  refine LP rfl rfl rfl (xmv rfl) ?_
  refine LFP rfl rfl rfl has120 rfl (c_must (e := (oneR b p).2.2)) ?_ ?_
  rotate_right
  ·
   rintro _ w5 ⟨hz1, rfl, hl4⟩
   refine F_p_then ?_
   refine F_p_block ?_
   refine F_p_then ?_
   refine F_p_block ?_
   refine F_p_then ?_
   have le1 : Le w w4 := (hq1.le (hl1.trans (hl2.trans hl3)) (inc (Nat.le_trans hl1.size hl2.size) hb1z inn))
   have e := walk_bad hw hkp (by omega) hz1
   exact F_p_end (pn_p ⟨by rw [e]; exact hz1, by rw [e], (le1.trans hl4)⟩)
  rintro _ w5 ⟨hz1, hl4⟩
  refine ⟨trivial, ?_⟩
  obtain ⟨k', rfl, hw', hkp'⟩ := walk_goes hw hkp (by omega) hz1
  have hone := one_ok (b := b) (p := p) hz1
  refine LZ ?_
  refine F_seq ?_
  refine W_seq ?_
  refine W_reg (.pure 0 (.one 1 (.one 2 (.one 3 (.pure 4 .nil))))) rfl ?_
  refine LP rfl rfl rfl (xmv rfl) ?_
  refine LX rfl rfl rfl (xlb5 ag145 (Le.bk hl4 hb2) rfl rfl rfl rfl rfl rfl) trivial ?_
  refine LT rfl rfl rfl (xbs rfl (bs136_1 ((oneR b p).1))) ?_
  rintro _ w6 ⟨b2, rfl, hl5, hb3, hb3z⟩
  refine ⟨trivial, ?_⟩
  have hr1 : Ow w6 w5 145 InstrE _ [(oneR b p).1] := Ow.of_bk hb3 rfl hb3z (Nat.le_of_ble_eq_true rfl)
  have le2 : Le w1 w4 := (hq1.le (hl2.trans hl3) (inc hl2.size hb1z inn))
  have le3 : Le w w4 := (hq1.le (hl1.trans (hl2.trans hl3)) (inc (Nat.le_trans hl1.size hl2.size) hb1z inn))
  refine LT rfl rfl rfl (xapp (E := InstrE) un136 el145 sz145 rfl (ho.le (le2.trans (hl4.trans hl5))) hr1.rd (le3.trans (hl4.trans hl5)) (by simp only [List.length_append, List.length_take, List.length_drop, List.length_cons, List.length_nil, maxLen]; omega) (by simp only [List.length_append, List.length_take, List.length_drop, List.length_cons, List.length_nil, maxLen]; omega) rfl rfl) ?_
  rintro v2 w7 ⟨hl6, ho1, hg1⟩
  have hk1 := hg1.lx.bk (Ow.ni_new ho hb1z hl2.size) (Le.bk (hl4.trans hl5) hb2)
  have hk2 := hg1.lx.ow (Ow.off_new hr1 ho (Nat.le_trans hl2.size (Nat.le_trans hl3.size (Nat.le_trans hq1.size hl4.size)))) hr1
  refine ⟨trivial, ?_⟩
  have hof1 := Apd.off hg1 (Ow.off_old ho hr1 (Nat.le_trans hl2.size (Nat.le_trans hl3.size (Nat.le_trans hq1.size hl4.size)))) (fun i hi => Nat.lt_of_lt_of_le (Ow.lt hr1 i hi) (Nat.le_refl _))
  refine LP rfl rfl rfl (xas rfl) ?_
  refine LZ ?_
  refine F_seq ?_
  refine W_reg (.pure 0 (.pure 1 .nil)) rfl ?_
  refine LP rfl rfl rfl (xmv rfl) ?_
  refine LP rfl rfl rfl (xas rfl) ?_
  refine LZ ?_
  refine F_block ?_
  exact F_roundv ⟨k', _, _, _⟩ ⟨hl6, hw', hkp', by simp only [List.length_append, List.length_cons, List.length_nil]; omega, by simpa using ho1.base (Le.refl _).size⟩ (by (try dsimp only); omega) (lk_loop 23 rfl rfl (hvc rfl (hvc rfl hvn)))
 · -- c1 no
  replace c1 := of_decide_eq_false c1
  refine W_exit ?_
  refine F_exit_then ?_
  refine F_exit_then ?_
  refine F_exit_here ?_
  refine F_seq ?_
  refine W_seq ?_
  refine W_reg (.pure 0 (.pure 1 .nil)) rfl ?_
  refine LP rfl rfl rfl (xmv rfl) ?_
  refine LP rfl rfl rfl (xas rfl) ?_
  refine LZ ?_
  refine F_seq ?_
  refine W_ret ?_
  have e := walk_done hw (by omega)
  exact F_end1 rfl rfl (pn_r ⟨by rw [e], hl1, by rw [e]; exact ho⟩)
theorem c_caught {e : Int} {w : World} :
    Fn Try.prog 117 #[.iface 211 (.agg #[.int .i64 e])] w fun v w' => v = .int .i64 e ∧ Le w w' := by
 refine Fn.enter 15 [(0, _)] Try.func117 rfl rfl rfl rfl ?_
 refine W_seq ?_
 refine W_reg (.pure 0 .nil) rfl ?_
 refine LP rfl rfl rfl (xas rfl) ?_
 refine LZ ?_
 refine F_seq ?_
 refine W_seq ?_
 refine W_reg (.pure 0 (.pure 1 (.pure 2 (.pure 3 (.pure 4 (.one 5 (.one 6 (.pure 7 .nil)))))))) rfl ?_
 refine LP rfl rfl rfl (xmv rfl) ?_
 refine LP rfl rfl rfl (xta st211 rfl rfl) ?_
 refine LP rfl rfl rfl (xmv rfl) ?_
 refine LP rfl rfl rfl (xext rfl rfl) ?_
 refine LP rfl rfl rfl (xext rfl rfl) ?_
 refine LT rfl rfl rfl (xal zr211) ?_
 rintro _ w1 ⟨b1, rfl, hl1, hb1, hb1z⟩
 refine ⟨trivial, ?_⟩
 refine LU rfl rfl (xsb sz211 hb1 rfl rfl (agg_cells _) rfl rfl (al_cons rfl al_nil)) ?_
 rintro w2 ⟨hq1, hb2⟩
 dsimp only [put] at hb2
 refine ⟨trivial, ?_⟩
 refine LP rfl rfl rfl (xas rfl) ?_
 refine LZ ?_
 refine F_seq ?_
 refine W_seq ?_
 refine W_seq ?_
 refine W_reg (.pure 0 (.pure 1 .nil)) rfl ?_
 refine LP rfl rfl rfl (xmv rfl) ?_
 refine LP rfl rfl rfl (xnot rfl) ?_
 refine LZ ?_
 refine F_seq ?_
 refine W_else rfl ?_
 refine W_skip ?_
 refine F_seq ?_
 refine W_seq ?_
 refine W_reg (.pure 0 (.one 1 (.pure 2 .nil))) rfl ?_
 refine LP rfl rfl rfl (xfa fa211_0 rfl) ?_
 refine LX rfl rfl rfl (xld sc28 rfl (cl_bk hb2 rfl)) trivial ?_
 refine LP rfl rfl rfl (xas rfl) ?_
 refine LZ ?_
 refine F_seq ?_
 refine W_ret ?_
 have le1 : Le w w2 := (hq1.le hl1 (inc (Nat.le_refl _) hb1z inn))
 exact F_end1 rfl rfl ⟨_, rfl, rfl, le1⟩
end Go.Proofs.Ythmhbonhagjnnaa
