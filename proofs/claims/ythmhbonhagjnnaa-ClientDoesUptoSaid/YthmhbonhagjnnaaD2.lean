/- Whatever a session does. -/
import Derived.Test.YthmhbonhagjnnaaProg
import Derived.Test.YthmhbonhagjnnaaC8
import Derived.Test.YthmhbonhagjnnaaC9
import Derived.KernelRfl
namespace Go.Proofs.Ythmhbonhagjnnaa
open Go.RowKit
set_option linter.unusedVariables false
set_option linter.unusedSimpArgs false
theorem has15_D2 : Has Try.prog 15 Try.f15 := ⟨Try.func15, by kernel_rfl, rfl⟩
theorem has16_D2 : Has Try.prog 16 Try.f16 := ⟨Try.func16, by kernel_rfl, rfl⟩
theorem bd48_0pp_1pp_D2 : ∀ (x0_0 : Option Addr) (x1_0 : Option Addr), BD Try.prog 48 [(0, .pointer x0_0), (1, .pointer x1_0)] #[.pointer x0_0, .pointer x1_0] := fun _ _ => fun _ => by kernel_rfl
theorem un45_D2 : Try.prog.underlying 45 = some (.slice 57) := by kernel_rfl
theorem sz57_D2 : ∀ w, (sizeOf 57).run Try.prog w = .ok 19 w := fun _ => by kernel_rfl
theorem ag57_D2 : Ag Try.prog 57 19 := ⟨fun _ => by kernel_rfl, fun _ => by kernel_rfl⟩
theorem zr57_D2 : Zr Try.prog 57 [.int .i64 0, .int .i64 0, .int .i64 0, .slice none 0 0, .slice none 0 0, .slice none 0 0, .slice none 0 0, .int .i64 0, .int .i64 0, .int .i64 0, .int .i64 0, .slice none 0 0, .int .i64 0, .int .i64 0, .bool false, .slice none 0 0, .int .i64 0, .int .i64 0, .slice none 0 0] := Zr.of (z := .agg #[.int .i64 0, .int .i64 0, .int .i64 0, .slice none 0 0, .slice none 0 0, .slice none 0 0, .slice none 0 0, .int .i64 0, .int .i64 0, .int .i64 0, .int .i64 0, .slice none 0 0, .int .i64 0, .int .i64 0, .bool false, .slice none 0 0, .int .i64 0, .int .i64 0, .slice none 0 0]) (fun _ => by kernel_rfl) rfl
theorem has22_D2 : Has Try.prog 22 Try.f22 := ⟨Try.func22, by kernel_rfl, rfl⟩
theorem has23_D2 : Has Try.prog 23 Try.f23 := ⟨Try.func23, by kernel_rfl, rfl⟩
theorem does25 {se reps : Int} {vs : Value} {l : List ROp} {w : World} (hl : RdE w.heap OpE vs l) (hel : ∀ x ∈ l, ROk w x) :
    Fn Try.prog 4 #[.int .i64 se, .int .i64 reps, vs] w fun v w' => v = .bool true ∧ Le w w' := by
 refine Fn.enter 62 [(0, _), (1, _), (2, _)] Try.func4 rfl rfl rfl rfl ?_
 have hzl := hl.sh.le
 refine W_seq ?_
 refine W_reg (.pure 0 .nil) rfl ?_
 refine LP rfl rfl rfl (xas rfl) ?_
 refine LZ ?_
 refine F_seq ?_
 refine W_seq ?_
 refine W_reg (.pure 0 (.pure 1 (.one 2 (.pure 3 (.pure 4 (.pure 5 (.pure 6 (.pure 7 .nil)))))))) rfl ?_
 refine LP rfl rfl rfl (xmv rfl) ?_
 refine LP rfl rfl rfl (xmv rfl) ?_
 refine LF rfl rfl rfl has14_C9 rfl (c_new (se := se) (reps := reps)) ?_
 rintro _ w1 (⟨hne1, rfl, hl1⟩ | ⟨he1, b1, wm1, rfl, hl2, hz1, hl3, hcl1⟩)
 ·
  refine ⟨trivial, ?_⟩
  refine LP rfl rfl rfl (xmv rfl) ?_
  refine LP rfl rfl rfl (xext rfl rfl) ?_
  refine LP rfl rfl rfl (xext rfl rfl) ?_
  refine LP rfl rfl rfl (xas rfl) ?_
  refine LP rfl rfl rfl (xas rfl) ?_
  refine LZ ?_
  refine F_seq ?_
  refine W_seq ?_
  refine W_reg (.pure 0 (.pure 1 (.one 2 (.pure 3 (.pure 4 (.pure 5 (.pure 6 (.pure 7 .nil)))))))) rfl ?_
  refine LP rfl rfl rfl (xmv rfl) ?_
  refine LP rfl rfl rfl (xmv rfl) ?_
  refine LF rfl rfl rfl has15_D2 rfl (r_new (se := se) (reps := reps)) ?_
  rintro _ w2 (⟨hne2, rfl, hl4⟩ | ⟨he2, b2, wm2, rfl, hl5, hz2, hl6, hcl2⟩)
  ·
   refine ⟨trivial, ?_⟩
   refine LP rfl rfl rfl (xmv rfl) ?_
   refine LP rfl rfl rfl (xext rfl rfl) ?_
   refine LP rfl rfl rfl (xext rfl rfl) ?_
   refine LP rfl rfl rfl (xas rfl) ?_
   refine LP rfl rfl rfl (xas rfl) ?_
   refine LZ ?_
   refine F_seq ?_
   refine W_seq ?_
   refine W_seq ?_
   refine W_reg (.pure 0 (.pure 1 (.pure 2 (.pure 3 (.pure 4 (.pure 5 (.pure 6 (.pure 7 (.pure 8 (.pure 9 (.pure 10 (.one 11 (.pure 12 (.pure 13 .nil)))))))))))))) rfl ?_
   refine LP rfl rfl rfl (xmv rfl) ?_
   refine LP rfl rfl rfl (xmv rfl) ?_
   refine LP rfl rfl rfl (xneq rfl rfl) ?_
   refine L_is 28 (v := .bool false) rfl (by simp) ?_
   refine LP rfl rfl rfl (xmv rfl) ?_
   refine LP rfl rfl rfl (xmv rfl) ?_
   refine LP rfl rfl rfl (xpnn pt27 rfl rfl) ?_
   refine LP rfl rfl rfl (xmv rfl) ?_
   refine LP rfl rfl rfl (xeql rfl rfl) ?_
   refine L_is 33 (v := .bool false) rfl (by simp) ?_
   refine LP rfl rfl rfl (xbne un4 rfl rfl) ?_
   refine L_is 34 (v := .bool false) rfl (by simp) ?_
   refine LP rfl rfl rfl (xpk0 rfl rfl) ?_
   refine LP rfl rfl rfl (xmv rfl) ?_
   refine LF rfl rfl rfl has16_D2 rfl live25 ?_
   rintro _ w3 ⟨rfl, hl7⟩
   refine ⟨trivial, ?_⟩
   refine LP rfl rfl rfl (xnot rfl) ?_
   refine LP rfl rfl rfl (xpk0 rfl rfl) ?_
   refine LZ ?_
   refine F_seq ?_
   refine W_else rfl ?_
   refine W_skip ?_
   refine F_seq ?_
   refine W_seq ?_
   refine W_seq ?_
   refine W_reg (.pure 0 (.pure 1 .nil)) rfl ?_
   refine LP rfl rfl rfl (xmv rfl) ?_
   refine LP rfl rfl rfl (xneq rfl rfl) ?_
   refine L_is 41 (v := .bool true) rfl (by simp) ?_
   refine LZ ?_
   refine F_seq ?_
   refine W_if rfl ?_
   refine W_seq ?_
   refine W_reg (.pure 0 .nil) rfl ?_
   refine LP rfl rfl rfl (xas rfl) ?_
   refine LZ ?_
   refine F_seq ?_
   refine W_ret ?_
   refine F_ret_then ?_
   exact F_end1 rfl rfl ⟨_, rfl, rfl, (hl1.trans (hl4.trans hl7))⟩
  ·
   exact absurd he2 hne1
 ·
  refine ⟨trivial, ?_⟩
  refine LP rfl rfl rfl (xmv rfl) ?_
  refine LP rfl rfl rfl (xext rfl rfl) ?_
  refine LP rfl rfl rfl (xext rfl rfl) ?_
  refine LP rfl rfl rfl (xas rfl) ?_
  refine LP rfl rfl rfl (xas rfl) ?_
  refine LZ ?_
  refine F_seq ?_
  refine W_seq ?_
  refine W_reg (.pure 0 (.pure 1 (.one 2 (.pure 3 (.pure 4 (.pure 5 (.pure 6 (.pure 7 .nil)))))))) rfl ?_
  refine LP rfl rfl rfl (xmv rfl) ?_
  refine LP rfl rfl rfl (xmv rfl) ?_
  refine LF rfl rfl rfl has15_D2 rfl (r_new (se := se) (reps := reps)) ?_
  rintro _ w4 (⟨hne3, rfl, hl8⟩ | ⟨he3, b3, wm3, rfl, hl9, hz3, hl10, hcl3⟩)
  ·
   exact absurd he1 hne3
  ·
   refine ⟨trivial, ?_⟩
   refine LP rfl rfl rfl (xmv rfl) ?_
   refine LP rfl rfl rfl (xext rfl rfl) ?_
   refine LP rfl rfl rfl (xext rfl rfl) ?_
   refine LP rfl rfl rfl (xas rfl) ?_
   refine LP rfl rfl rfl (xas rfl) ?_
   refine LZ ?_
   refine F_seq ?_
   refine W_seq ?_
   refine W_seq ?_
   refine W_reg (.pure 0 (.pure 1 (.pure 2 (.pure 3 (.pure 4 (.pure 5 (.pure 6 (.pure 7 (.pure 8 (.pure 9 (.pure 10 (.one 11 (.pure 12 (.pure 13 .nil)))))))))))))) rfl ?_
   refine LP rfl rfl rfl (xmv rfl) ?_
   refine LP rfl rfl rfl (xmv rfl) ?_
   refine LP rfl rfl rfl (xneq rfl rfl) ?_
   refine L_is 28 (v := .bool false) rfl (by simp) ?_
   refine LP rfl rfl rfl (xmv rfl) ?_
   refine LP rfl rfl rfl (xmv rfl) ?_
   refine LP rfl rfl rfl (xpnn pt27 rfl rfl) ?_
   refine LP rfl rfl rfl (xmv rfl) ?_
   refine LP rfl rfl rfl (xeql rfl rfl) ?_
   refine L_is 33 (v := .bool true) rfl (by simp) ?_
   refine LP rfl rfl rfl (xbne un4 rfl rfl) ?_
   refine L_is 34 (v := .bool false) rfl (by simp) ?_
   refine LP rfl rfl rfl (xpk0 rfl rfl) ?_
   refine LP rfl rfl rfl (xmv rfl) ?_
   refine LF rfl rfl rfl has16_D2 rfl live25 ?_
   rintro _ w5 ⟨rfl, hl11⟩
   refine ⟨trivial, ?_⟩
   refine LP rfl rfl rfl (xnot rfl) ?_
   refine LP rfl rfl rfl (xpk0 rfl rfl) ?_
   refine LZ ?_
   refine F_seq ?_
   refine W_else rfl ?_
   refine W_skip ?_
   refine F_seq ?_
   refine W_seq ?_
   refine W_seq ?_
   refine W_reg (.pure 0 (.pure 1 .nil)) rfl ?_
   refine LP rfl rfl rfl (xmv rfl) ?_
   refine LP rfl rfl rfl (xneq rfl rfl) ?_
   refine L_is 41 (v := .bool false) rfl (by simp) ?_
   refine LZ ?_
   refine F_seq ?_
   refine W_else rfl ?_
   refine W_skip ?_
   refine F_seq ?_
   refine W_seq ?_
   refine W_reg (.pure 0 (.pure 1 (.pure 2 (.one 3 (.pure 4 .nil))))) rfl ?_
   refine LP rfl rfl rfl (xmv rfl) ?_
   refine LP rfl rfl rfl (xmv rfl) ?_
   refine LP rfl rfl rfl (xbd rfl (bd48_0pp_1pp_D2 _ _)) ?_
   refine LT rfl rfl rfl (xbox rfl) ?_
   rintro _ w6 ⟨b4, rfl, hl12, hb1, hb1z⟩
   refine ⟨trivial, ?_⟩
   refine LP rfl rfl rfl (xas rfl) ?_
   refine LZ ?_
   refine F_seq ?_
   refine W_seq ?_
   refine W_seq ?_
   refine W_reg (.pure 0 (.pure 1 (.pure 2 .nil))) rfl ?_
   refine LP rfl rfl rfl (xmv rfl) ?_
   refine LP rfl rfl rfl (xlen un45_D2 hl.sh rfl) ?_
   refine LP rfl rfl rfl (xmv rfl) ?_
   refine LZ ?_
   refine F_seq ?_
   refine W_block ?_
   refine W_loopv (ι := Nat × (List Nat) × Nat × Cli) (fun ⟨k, S, bc, c⟩ => [(48, .int .i64 (k : Int))]) (fun ⟨k, S, bc, c⟩ w' => Le w w' ∧ k ≤ l.length ∧ PairI S w' b4 bc b3 c ∧ ∀ i ∈ S, w.heap.size ≤ i) (fun ⟨k, S, bc, c⟩ => l.length - k) ⟨0, [b4, b1, b3], b1, newC se reps⟩ (hvc rfl hvn) ⟨(hl2.trans (hl3.trans (hl9.trans (hl10.trans (hl11.trans hl12))))), Nat.zero_le _, ⟨hb1, (Le.clx (hl9.trans (hl10.trans (hl11.trans hl12))) (⟨_, _, _, _, _, hcl1 [b4, b1, b3]⟩ : Cl [b4, b1, b3] w1 116 b1 _)), (Le.clx (hl11.trans hl12) (⟨_, _, _, _, _, hcl3 [b4, b1, b3]⟩ : Cl [b4, b1, b3] w4 118 b3 _)), by simp, by simp, by simp, newC_ok he3, fun _ => rfl, lt_cons (Nat.lt_of_lt_of_le (bk_lt hb1) (Nat.le_refl _)) (lt_cons (Nat.lt_of_lt_of_le (bk_lt ((hcl1 []).hb)) (Nat.le_trans hl9.size (Nat.le_trans hl10.size (Nat.le_trans hl11.size hl12.size)))) (lt_cons (Nat.lt_of_lt_of_le (bk_lt ((hcl3 []).hb)) (Nat.le_trans hl11.size hl12.size)) lt_nil))⟩, inc (Nat.le_trans hl2.size (Nat.le_trans hl3.size (Nat.le_trans hl9.size (Nat.le_trans hl10.size hl11.size)))) hb1z (inc hl2.size hz1 (inc (Nat.le_trans hl2.size (Nat.le_trans hl3.size hl9.size)) hz3 inn))⟩ ?_
   rintro ⟨k, S, bc, c⟩ w7 ⟨hl13, hk, hP, hSge⟩
   show W _ _ _ _ _ ([(48, .int .i64 (k : Int))] ++ _) _
   refine W_seq ?_
   refine W_reg (.pure 0 .nil) rfl ?_
   refine LP rfl rfl rfl (xlss rfl rfl) ?_
   refine LZ ?_
   refine F_seq ?_
   refine W_seq ?_
   refine W_cond rfl (fun c5 => ?_) (fun c5 => ?_)
   · -- c5 yes
    replace c5 := of_decide_eq_true c5
    refine W_skip ?_
    refine F_seq ?_
    refine W_seq ?_
    refine W_block ?_
    refine W_seq ?_
    refine W_reg (.pure 0 (.one 1 (.one 2 (.one 3 .nil)))) rfl ?_
    obtain ⟨x1, hx1⟩ : ∃ x, l[k]? = some x := ⟨_, List.getElem?_eq_getElem (by omega)⟩
    refine LP rfl rfl rfl (xix k un45_D2 sz57_D2 hl.sh rfl rfl (by omega) (by omega)) ?_
    refine LX rfl rfl rfl (xle ag57_D2 (RdE.le hl13 hl) hx1 rfl) trivial ?_
    have hok1 := hel x1 (List.mem_of_getElem? hx1)
    refine LT rfl rfl rfl (xal zr57_D2) ?_
    rintro _ w8 ⟨b5, rfl, hl14, hb2, hb2z⟩
    refine ⟨trivial, ?_⟩
    refine LU rfl rfl (xsb sz57_D2 hb2 rfl rfl (agg_cells [.int .i64 x1.o.kind, .int .i64 x1.o.t.se, .int .i64 x1.o.t.rq, x1.tc, x1.ta, x1.tr, x1.tw, .int .i64 x1.o.rep, .int .i64 x1.o.a.se, .int .i64 x1.o.a.rq, .int .i64 x1.o.a.r.e, x1.x, .int .i64 x1.o.a.r.slot, .int .i64 x1.o.a.r.place, .bool x1.o.own, x1.k, .int .i64 x1.o.fe, .int .i64 x1.o.fi, x1.p]) rfl rfl (al_cons rfl (al_cons rfl (al_cons rfl (al_cons hok1.tc.sh.one (al_cons hok1.ta.sh.one (al_cons hok1.tr.sh.one (al_cons hok1.tw.sh.one (al_cons rfl (al_cons rfl (al_cons rfl (al_cons rfl (al_cons hok1.x.sh.one (al_cons rfl (al_cons rfl (al_cons rfl (al_cons hok1.k.sh.one (al_cons rfl (al_cons rfl (al_cons hok1.p.sh.one al_nil)))))))))))))))))))) ?_
    rintro w9 ⟨hq1, hb3⟩
    dsimp only [put] at hb3
    refine ⟨trivial, ?_⟩
    refine LZ ?_
    refine F_seq ?_
    refine W_seq ?_
    refine W_reg (.pure 0 (.one 1 (.one 2 (.pure 3 (.pure 4 (.pure 5 (.one 6 (.pure 7 (.pure 8 .nil))))))))) rfl ?_
    refine LP rfl rfl rfl (xmv rfl) ?_
    refine LX rfl rfl rfl (xlb19 ag57_D2 hb3 rfl rfl rfl rfl rfl rfl rfl rfl rfl rfl rfl rfl rfl rfl rfl rfl rfl rfl rfl rfl) trivial ?_
    have le1 : Le w w9 := (hq1.le (hl13.trans hl14) (inc hl13.size hb2z inn))
    have le2 : Le w7 w9 := (hq1.le hl14 (inc (Nat.le_refl _) hb2z inn))
    refine LF rfl rfl rfl has22_D2 rfl (p_does (o := x1.o) (PairI.le le2 hP) hok1.sm (RdX.of_le hok1.tc rfl le1 hSge) (RdX.of_le hok1.ta rfl le1 hSge) (RdX.of_le hok1.tr rfl le1 hSge) (RdX.of_le hok1.tw rfl le1 hSge) (RdX.of_le hok1.x rfl le1 hSge) (RdX.of_le hok1.k rfl le1 hSge) (RdX.of_le hok1.p rfl le1 hSge)) ?_
    rintro _ w10 ⟨S1, bc1, c1, rfl, hlx1, hP1, hsub1⟩
    have hg1 : ∀ i ∈ S1, w.heap.size ≤ i := fun i hi => (hsub1 i hi).elim (hSge i) (fun h => Nat.le_trans (Nat.le_trans hl13.size (Nat.le_trans hl14.size hq1.size)) h)
    refine ⟨trivial, ?_⟩
    refine LP rfl rfl rfl (xnot rfl) ?_
    refine LP rfl rfl rfl (xmv rfl) ?_
    refine LP rfl rfl rfl (xmv rfl) ?_
    refine LF rfl rfl rfl has23_D2 rfl (p_is hP1) ?_
    rintro _ w11 ⟨rfl, hl15⟩
    refine ⟨trivial, ?_⟩
    refine LP rfl rfl rfl (xnot rfl) ?_
    refine LP rfl rfl rfl (xpk0 rfl rfl) ?_
    refine LZ ?_
    refine F_seq ?_
    refine W_else rfl ?_
    refine W_skip ?_
    refine F_block ?_
    refine F_seq ?_
    refine W_reg (.pure 0 (.pure 1 .nil)) rfl ?_
    refine LP rfl rfl rfl (xaddn rfl rfl (by omega)) ?_
    refine LP rfl rfl rfl (xmv rfl) ?_
    refine LZ ?_
    exact F_roundv ⟨k + 1, S1, bc1, c1⟩ ⟨((hlx1.le le1 hSge).trans hl15), by omega, PairI.le hl15 hP1, hg1⟩ (by (try dsimp only); omega) (lk_loop 15 rfl rfl (hvc rfl hvn))
   · -- c5 no
    replace c5 := of_decide_eq_false c5
    refine W_exit ?_
    refine F_exit_then ?_
    refine F_exit_then ?_
    refine F_exit_here ?_
    refine F_seq ?_
    refine W_seq ?_
    refine W_reg (.pure 0 .nil) rfl ?_
    refine LP rfl rfl rfl (xas rfl) ?_
    refine LZ ?_
    refine F_seq ?_
    refine W_ret ?_
    exact F_end1 rfl rfl ⟨_, rfl, rfl, hl13⟩
end Go.Proofs.Ythmhbonhagjnnaa
