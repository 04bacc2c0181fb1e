/- Whether a transaction may run, by the document. -/
import Derived.Test.YthmhbonhagjnnaaProg
import Derived.Test.YthmhbonhagjnnaaB1
import Derived.KernelRfl
namespace Go.Proofs.Ythmhbonhagjnnaa
open Go.RowKit
set_option linter.unusedVariables false
set_option linter.unusedSimpArgs false
theorem fa26_0 : FA Try.prog 26 0 0 := fun _ _ _ => by kernel_rfl
theorem fa26_1 : FA Try.prog 26 1 1 := fun _ _ _ => by kernel_rfl
theorem fa26_3 : FA Try.prog 26 3 3 := fun _ _ _ => by kernel_rfl
theorem sc23 : Sc Try.prog 23 := fun _ => by kernel_rfl
theorem fa26_4 : FA Try.prog 26 4 4 := fun _ _ _ => by kernel_rfl
theorem sc24 : Sc Try.prog 24 := fun _ => by kernel_rfl
theorem fa26_5 : FA Try.prog 26 5 5 := fun _ _ _ => by kernel_rfl
theorem has112 : Has Try.prog 112 Try.f112 := ⟨Try.func112, by kernel_rfl, rfl⟩
theorem fa26_2 : FA Try.prog 26 2 2 := fun _ _ _ => by kernel_rfl
theorem sc22 : Sc Try.prog 22 := fun _ => by kernel_rfl
theorem has113 : Has Try.prog 113 Try.f113 := ⟨Try.func113, by kernel_rfl, rfl⟩
theorem r_check {t : Txn} {vtc vta vtr vtw : Value} {w : World} (htc : RdE w.heap ByteE vtc t.code) (hta : RdE w.heap IntE vta t.args) (htr : RdE w.heap KeyE vtr t.reads) (htw : RdE w.heap KeyE vtw t.writes) (hB : ∀ x ∈ t.code, 0 ≤ x ∧ x ≤ 255) (hn : t.code.length ≤ 4294967296) :
    Fn Try.prog 65 #[(.agg #[.int .i64 t.se, .int .i64 t.rq, vtc, vta, vtr, vtw])] w fun v w' => v = .int .i64 (checkR t) ∧ Le w w' := by
 refine Fn.enter 95 [(0, _)] Try.func65 rfl rfl rfl rfl ?_
 have hzc := htc.sh.le
 have hza := hta.sh.le
 have hzr := htr.sh.le
 have hzw := htw.sh.le
 have hzd := decodeR_len t.code
 refine W_seq ?_
 refine W_reg (.one 0 (.pure 1 .nil)) rfl ?_
 refine LT rfl rfl rfl (xbox rfl) ?_
 rintro _ w1 ⟨b1, rfl, hl1, hb1, hb1z⟩
 refine ⟨trivial, ?_⟩
 refine LP rfl rfl rfl (xas rfl) ?_
 refine LZ ?_
 refine F_seq ?_
 refine W_seq ?_
 refine W_seq ?_
 refine W_reg (.pure 0 (.one 1 (.pure 2 (.pure 3 (.pure 4 (.one 5 (.pure 6 (.pure 7 (.pure 8 (.pure 9 (.one 10 (.pure 11 (.pure 12 (.pure 13 (.pure 14 (.one 15 (.pure 16 (.pure 17 .nil)))))))))))))))))) rfl ?_
 refine LP rfl rfl rfl (xfa fa26_0 rfl) ?_
 refine LX rfl rfl rfl (xld sc2 rfl (cl_bk hb1 rfl)) trivial ?_
 refine LP rfl rfl rfl (xlss rfl rfl) ?_
 refine LP rfl rfl rfl (xmv rfl) ?_
 refine L_split (t := 10) rfl (fun c1 => ?_) (fun c1 => ?_)
 · -- c1 yes
  replace c1 := of_decide_eq_true c1
  refine LN rfl rfl rfl ?_
  refine LNo rfl rfl rfl trivial ?_
  refine LN rfl rfl rfl ?_
  refine LP rfl rfl rfl (xpk1 rfl rfl) ?_
  refine LP rfl rfl rfl (xmv rfl) ?_
  refine LN rfl rfl rfl ?_
  refine LNo rfl rfl rfl trivial ?_
  refine LN rfl rfl rfl ?_
  refine LP rfl rfl rfl (xpk1 rfl rfl) ?_
  refine LP rfl rfl rfl (xmv rfl) ?_
  refine LN rfl rfl rfl ?_
  refine LNo rfl rfl rfl trivial ?_
  refine LN rfl rfl rfl ?_
  refine LP rfl rfl rfl (xpk1 rfl rfl) ?_
  refine LZ ?_
  refine F_seq ?_
  refine W_if rfl ?_
  refine W_seq ?_
  refine W_reg (.pure 0 .nil) rfl ?_
  refine LP rfl rfl rfl (xas rfl) ?_
  refine LZ ?_
  refine F_seq ?_
  refine W_ret ?_
  refine F_ret_then ?_
  have e : checkR t = 1 := by first | (unfold checkR; rw [if_pos (by omega)]; done) | (unfold checkR; rw [if_neg (by omega), if_pos (by omega)]; done) | (unfold checkR; rw [if_neg (by omega), if_neg (by omega), if_pos (by simp [*])]; done)
  exact F_end1 rfl rfl ⟨_, rfl, (by rw [e]; try rfl), hl1⟩
 · -- c1 no
  replace c1 := of_decide_eq_false c1
  refine LP rfl rfl rfl (xfa fa26_0 rfl) ?_
  refine LX rfl rfl rfl (xld sc2 rfl (cl_bk hb1 rfl)) trivial ?_
  refine LP rfl rfl rfl (xgtr rfl rfl) ?_
  refine LP rfl rfl rfl (xpk0 rfl rfl) ?_
  refine LP rfl rfl rfl (xmv rfl) ?_
  refine L_split (t := 15) rfl (fun c3 => ?_) (fun c3 => ?_)
  · -- c3 yes
   replace c3 := of_decide_eq_true c3
   refine LN rfl rfl rfl ?_
   refine LNo rfl rfl rfl trivial ?_
   refine LN rfl rfl rfl ?_
   refine LP rfl rfl rfl (xpk1 rfl rfl) ?_
   refine LP rfl rfl rfl (xmv rfl) ?_
   refine LN rfl rfl rfl ?_
   refine LNo rfl rfl rfl trivial ?_
   refine LN rfl rfl rfl ?_
   refine LP rfl rfl rfl (xpk1 rfl rfl) ?_
   refine LZ ?_
   refine F_seq ?_
   refine W_if rfl ?_
   refine W_seq ?_
   refine W_reg (.pure 0 .nil) rfl ?_
   refine LP rfl rfl rfl (xas rfl) ?_
   refine LZ ?_
   refine F_seq ?_
   refine W_ret ?_
   refine F_ret_then ?_
   have e : checkR t = 1 := by first | (unfold checkR; rw [if_pos (by omega)]; done) | (unfold checkR; rw [if_neg (by omega), if_pos (by omega)]; done) | (unfold checkR; rw [if_neg (by omega), if_neg (by omega), if_pos (by simp [*])]; done)
   exact F_end1 rfl rfl ⟨_, rfl, (by rw [e]; try rfl), hl1⟩
  · -- c3 no
   replace c3 := of_decide_eq_false c3
   refine LP rfl rfl rfl (xfa fa26_1 rfl) ?_
   refine LX rfl rfl rfl (xld sc2 rfl (cl_bk hb1 rfl)) trivial ?_
   refine LP rfl rfl rfl (xlss rfl rfl) ?_
   refine LP rfl rfl rfl (xpk0 rfl rfl) ?_
   refine LP rfl rfl rfl (xmv rfl) ?_
   refine L_split (t := 20) rfl (fun c5 => ?_) (fun c5 => ?_)
   · -- c5 yes
    replace c5 := of_decide_eq_true c5
    refine LN rfl rfl rfl ?_
    refine LNo rfl rfl rfl trivial ?_
    refine LN rfl rfl rfl ?_
    refine LP rfl rfl rfl (xpk1 rfl rfl) ?_
    refine LZ ?_
    refine F_seq ?_
    refine W_if rfl ?_
    refine W_seq ?_
    refine W_reg (.pure 0 .nil) rfl ?_
    refine LP rfl rfl rfl (xas rfl) ?_
    refine LZ ?_
    refine F_seq ?_
    refine W_ret ?_
    refine F_ret_then ?_
    have e : checkR t = 1 := by first | (unfold checkR; rw [if_pos (by omega)]; done) | (unfold checkR; rw [if_neg (by omega), if_pos (by omega)]; done) | (unfold checkR; rw [if_neg (by omega), if_neg (by omega), if_pos (by simp [*])]; done)
    exact F_end1 rfl rfl ⟨_, rfl, (by rw [e]; try rfl), hl1⟩
   · -- c5 no
    replace c5 := of_decide_eq_false c5
    refine LP rfl rfl rfl (xfa fa26_1 rfl) ?_
    refine LX rfl rfl rfl (xld sc2 rfl (cl_bk hb1 rfl)) trivial ?_
    refine LP rfl rfl rfl (xgtr rfl rfl) ?_
    refine LP rfl rfl rfl (xpk0 rfl rfl) ?_
    refine LZ ?_
    refine F_seq ?_
    refine W_cond rfl (fun c7 => ?_) (fun c7 => ?_)
    · -- c7 yes
     replace c7 := of_decide_eq_true c7
     refine W_seq ?_
     refine W_reg (.pure 0 .nil) rfl ?_
     refine LP rfl rfl rfl (xas rfl) ?_
     refine LZ ?_
     refine F_seq ?_
     refine W_ret ?_
     refine F_ret_then ?_
     have e : checkR t = 1 := by first | (unfold checkR; rw [if_pos (by omega)]; done) | (unfold checkR; rw [if_neg (by omega), if_pos (by omega)]; done) | (unfold checkR; rw [if_neg (by omega), if_neg (by omega), if_pos (by simp [*])]; done)
     exact F_end1 rfl rfl ⟨_, rfl, (by rw [e]; try rfl), hl1⟩
    · -- c7 no
     replace c7 := of_decide_eq_false c7
     refine W_skip ?_
     refine F_seq ?_
     refine W_seq ?_
     refine W_seq ?_
     refine W_reg (.pure 0 (.one 1 (.pure 2 (.pure 3 (.pure 4 (.pure 5 (.one 6 (.pure 7 (.pure 8 (.pure 9 (.pure 10 (.pure 11 (.one 12 (.pure 13 (.pure 14 (.pure 15 .nil)))))))))))))))) rfl ?_
     refine LP rfl rfl rfl (xfa fa26_3 rfl) ?_
     refine LX rfl rfl rfl (xld sc23 rfl (cl_bk hb1 rfl)) trivial ?_
     refine LP rfl rfl rfl (xlen un23 hta.sh rfl) ?_
     refine LP rfl rfl rfl (xgtr rfl rfl) ?_
     refine LP rfl rfl rfl (xmv rfl) ?_
     refine L_split (t := 29) rfl (fun c8 => ?_) (fun c8 => ?_)
     · -- c8 yes
      replace c8 := of_decide_eq_true c8
      refine LN rfl rfl rfl ?_
      refine LNo rfl rfl rfl trivial ?_
      refine LN rfl rfl rfl ?_
      refine LN rfl rfl rfl ?_
      refine LP rfl rfl rfl (xpk1 rfl rfl) ?_
      refine LP rfl rfl rfl (xmv rfl) ?_
      refine LN rfl rfl rfl ?_
      refine LNo rfl rfl rfl trivial ?_
      refine LN rfl rfl rfl ?_
      refine LN rfl rfl rfl ?_
      refine LP rfl rfl rfl (xpk1 rfl rfl) ?_
      refine LZ ?_
      refine F_seq ?_
      refine W_if rfl ?_
      refine W_seq ?_
      refine W_reg (.pure 0 .nil) rfl ?_
      refine LP rfl rfl rfl (xas rfl) ?_
      refine LZ ?_
      refine F_seq ?_
      refine W_ret ?_
      refine F_ret_then ?_
      have e : checkR t = 3 := by first | (unfold checkR; rw [if_pos (by omega)]; done) | (unfold checkR; rw [if_neg (by omega), if_pos (by omega)]; done) | (unfold checkR; rw [if_neg (by omega), if_neg (by omega), if_pos (by simp [*])]; done)
      exact F_end1 rfl rfl ⟨_, rfl, (by rw [e]; try rfl), hl1⟩
     · -- c8 no
      replace c8 := of_decide_eq_false c8
      refine LP rfl rfl rfl (xfa fa26_4 rfl) ?_
      refine LX rfl rfl rfl (xld sc24 rfl (cl_bk hb1 rfl)) trivial ?_
      refine LP rfl rfl rfl (xlen un24 htr.sh rfl) ?_
      refine LP rfl rfl rfl (xgtr rfl rfl) ?_
      refine LP rfl rfl rfl (xpk0 rfl rfl) ?_
      refine LP rfl rfl rfl (xmv rfl) ?_
      refine L_split (t := 35) rfl (fun c10 => ?_) (fun c10 => ?_)
      · -- c10 yes
       replace c10 := of_decide_eq_true c10
       refine LN rfl rfl rfl ?_
       refine LNo rfl rfl rfl trivial ?_
       refine LN rfl rfl rfl ?_
       refine LN rfl rfl rfl ?_
       refine LP rfl rfl rfl (xpk1 rfl rfl) ?_
       refine LZ ?_
       refine F_seq ?_
       refine W_if rfl ?_
       refine W_seq ?_
       refine W_reg (.pure 0 .nil) rfl ?_
       refine LP rfl rfl rfl (xas rfl) ?_
       refine LZ ?_
       refine F_seq ?_
       refine W_ret ?_
       refine F_ret_then ?_
       have e : checkR t = 3 := by first | (unfold checkR; rw [if_pos (by omega)]; done) | (unfold checkR; rw [if_neg (by omega), if_pos (by omega)]; done) | (unfold checkR; rw [if_neg (by omega), if_neg (by omega), if_pos (by simp [*])]; done)
       exact F_end1 rfl rfl ⟨_, rfl, (by rw [e]; try rfl), hl1⟩
      · -- c10 no
       replace c10 := of_decide_eq_false c10
       refine LP rfl rfl rfl (xfa fa26_5 rfl) ?_
       refine LX rfl rfl rfl (xld sc24 rfl (cl_bk hb1 rfl)) trivial ?_
       refine LP rfl rfl rfl (xlen un24 htw.sh rfl) ?_
       refine LP rfl rfl rfl (xgtr rfl rfl) ?_
       refine LP rfl rfl rfl (xpk0 rfl rfl) ?_
       refine LZ ?_
       refine F_seq ?_
       refine W_cond rfl (fun c12 => ?_) (fun c12 => ?_)
       · -- c12 yes
        replace c12 := of_decide_eq_true c12
        refine W_seq ?_
        refine W_reg (.pure 0 .nil) rfl ?_
        refine LP rfl rfl rfl (xas rfl) ?_
        refine LZ ?_
        refine F_seq ?_
        refine W_ret ?_
        refine F_ret_then ?_
        have e : checkR t = 3 := by first | (unfold checkR; rw [if_pos (by omega)]; done) | (unfold checkR; rw [if_neg (by omega), if_pos (by omega)]; done) | (unfold checkR; rw [if_neg (by omega), if_neg (by omega), if_pos (by simp [*])]; done)
        exact F_end1 rfl rfl ⟨_, rfl, (by rw [e]; try rfl), hl1⟩
       · -- c12 no
        replace c12 := of_decide_eq_false c12
        refine W_skip ?_
        refine F_seq ?_
        refine W_seq ?_
        refine W_seq ?_
        refine W_reg (.pure 0 (.one 1 (.one 2 (.pure 3 (.pure 4 (.pure 5 (.one 6 (.one 7 (.pure 8 (.pure 9 .nil)))))))))) rfl ?_
        refine LP rfl rfl rfl (xfa fa26_4 rfl) ?_
        refine LX rfl rfl rfl (xld sc24 rfl (cl_bk hb1 rfl)) trivial ?_
        refine LF rfl rfl rfl has112 rfl (r_rises (RdE.le hl1 htr)) ?_
        rintro _ w2 ⟨rfl, hl2⟩
        refine ⟨trivial, ?_⟩
        refine LP rfl rfl rfl (xnot rfl) ?_
        refine LP rfl rfl rfl (xmv rfl) ?_
        refine L_split (t := 45) rfl (fun c13 => ?_) (fun c13 => ?_)
        · -- c13 yes
         try simp only [Bool.not_eq_true', Bool.not_eq_false', decide_eq_true_eq, decide_eq_false_iff_not] at c13
         refine LN rfl rfl rfl ?_
         refine LNo rfl rfl rfl trivial ?_
         refine LNo rfl rfl rfl trivial ?_
         refine LN rfl rfl rfl ?_
         refine LP rfl rfl rfl (xpk1 rfl rfl) ?_
         refine LZ ?_
         refine F_seq ?_
         refine W_if rfl ?_
         refine W_seq ?_
         refine W_reg (.pure 0 .nil) rfl ?_
         refine LP rfl rfl rfl (xas rfl) ?_
         refine LZ ?_
         refine F_seq ?_
         refine W_ret ?_
         refine F_ret_then ?_
         have e : checkR t = 1 := by first | (unfold checkR; rw [if_pos (by omega)]; done) | (unfold checkR; rw [if_neg (by omega), if_pos (by omega)]; done) | (unfold checkR; rw [if_neg (by omega), if_neg (by omega), if_pos (by simp [*])]; done)
         exact F_end1 rfl rfl ⟨_, rfl, (by rw [e]; try rfl), (hl1.trans hl2)⟩
        · -- c13 no
         try simp only [Bool.not_eq_true', Bool.not_eq_false', decide_eq_true_eq, decide_eq_false_iff_not] at c13
         refine LP rfl rfl rfl (xfa fa26_5 rfl) ?_
         refine LX rfl rfl rfl (xld sc24 rfl (cl_bk (Le.bk hl2 hb1) rfl)) trivial ?_
         refine LF rfl rfl rfl has112 rfl (r_rises (RdE.le (hl1.trans hl2) htw)) ?_
         rintro _ w3 ⟨rfl, hl3⟩
         refine ⟨trivial, ?_⟩
         refine LP rfl rfl rfl (xnot rfl) ?_
         refine LP rfl rfl rfl (xpk0 rfl rfl) ?_
         refine LZ ?_
         refine F_seq ?_
         refine W_cond rfl (fun c15 => ?_) (fun c15 => ?_)
         · -- c15 yes
          try simp only [Bool.not_eq_true', Bool.not_eq_false', decide_eq_true_eq, decide_eq_false_iff_not] at c15
          refine W_seq ?_
          refine W_reg (.pure 0 .nil) rfl ?_
          refine LP rfl rfl rfl (xas rfl) ?_
          refine LZ ?_
          refine F_seq ?_
          refine W_ret ?_
          refine F_ret_then ?_
          have e : checkR t = 1 := by first | (unfold checkR; rw [if_pos (by omega)]; done) | (unfold checkR; rw [if_neg (by omega), if_pos (by omega)]; done) | (unfold checkR; rw [if_neg (by omega), if_neg (by omega), if_pos (by simp [*])]; done)
          exact F_end1 rfl rfl ⟨_, rfl, (by rw [e]; try rfl), (hl1.trans (hl2.trans hl3))⟩
         · -- c15 no
          try simp only [Bool.not_eq_true', Bool.not_eq_false', decide_eq_true_eq, decide_eq_false_iff_not] at c15
          have h3 : ¬ (risesB t.reads = false ∨ risesB t.writes = false) := by simp [*]
          refine W_skip ?_
          refine F_seq ?_
          refine W_seq ?_
          refine W_reg (.pure 0 (.one 1 (.one 2 (.pure 3 (.pure 4 (.pure 5 (.pure 6 (.pure 7 .nil)))))))) rfl ?_
          refine LP rfl rfl rfl (xfa fa26_2 rfl) ?_
          refine LX rfl rfl rfl (xld sc22 rfl (cl_bk (Le.bk (hl2.trans hl3) hb1) rfl)) trivial ?_
          refine LF rfl rfl rfl has113 rfl (r_decode (RdE.le (hl1.trans (hl2.trans hl3)) htc) hB (by first | omega | (simp only [List.length_append, List.length_take, List.length_drop, List.length_cons, List.length_nil]; omega))) ?_
          rintro _ w4 ⟨vx1, rfl, hl4, ho1⟩
          refine ⟨trivial, ?_⟩
          refine LP rfl rfl rfl (xmv rfl) ?_
          refine LP rfl rfl rfl (xext rfl rfl) ?_
          refine LP rfl rfl rfl (xext rfl rfl) ?_
          refine LP rfl rfl rfl (xas rfl) ?_
          refine LP rfl rfl rfl (xas rfl) ?_
          refine LZ ?_
          refine F_seq ?_
          refine W_seq ?_
          refine W_seq ?_
          refine W_reg (.pure 0 (.pure 1 .nil)) rfl ?_
          refine LP rfl rfl rfl (xmv rfl) ?_
          refine LP rfl rfl rfl (xneq rfl rfl) ?_
          refine LZ ?_
          refine F_seq ?_
          refine W_cond rfl (fun c16 => ?_) (fun c16 => ?_)
          · -- c16 yes
           try simp only [Bool.not_eq_true', Bool.not_eq_false', decide_eq_true_eq, decide_eq_false_iff_not] at c16
           refine W_seq ?_
           refine W_reg (.pure 0 (.pure 1 .nil)) rfl ?_
           refine LP rfl rfl rfl (xmv rfl) ?_
           refine LP rfl rfl rfl (xas rfl) ?_
           refine LZ ?_
           refine F_seq ?_
           refine W_ret ?_
           refine F_ret_then ?_
           have e : checkR t = (decodeR t.code).2 := by unfold checkR; rw [if_neg (by omega), if_neg (by omega), if_neg h3, if_pos (by simpa using c16)]
           exact F_end1 rfl rfl ⟨_, rfl, (by rw [e]; try rfl), (hl1.trans (hl2.trans (hl3.trans hl4)))⟩
          · -- c16 no
           try simp only [Bool.not_eq_true', Bool.not_eq_false', decide_eq_true_eq, decide_eq_false_iff_not] at c16
           have h4 : (decodeR t.code).2 = 0 := by simpa using c16
           refine W_skip ?_
           refine F_seq ?_
           refine W_seq ?_
           refine W_seq ?_
           refine W_reg (.pure 0 .nil) rfl ?_
           refine LP rfl rfl rfl (xas rfl) ?_
           refine LZ ?_
           refine F_seq ?_
           refine W_block ?_
           refine W_loopv (ι := Nat) (fun k => [(5, .int .i64 (k : Int))]) (fun k w' => Le w4 w' ∧ k ≤ (decodeR t.code).1.length ∧ ∀ x ∈ (decodeR t.code).1.take k, idxBad t x = false) (fun k => (decodeR t.code).1.length - k) 0 (hvc rfl hvn) ⟨Le.refl _, Nat.zero_le _, by simp⟩ ?_
           rintro k w5 ⟨hl5, hk, hnt⟩
           refine W_seq ?_
           refine W_seq ?_
           refine W_reg (.pure 0 (.pure 1 (.pure 2 (.pure 3 .nil)))) rfl ?_
           refine LP rfl rfl rfl (xmv rfl) ?_
           refine LP rfl rfl rfl (xmv rfl) ?_
           refine LP rfl rfl rfl (xlen un136 ho1.rd.sh rfl) ?_
           refine LP rfl rfl rfl (xlss rfl rfl) ?_
           refine LZ ?_
           refine F_seq ?_
           refine W_cond rfl (fun c17 => ?_) (fun c17 => ?_)
           · -- c17 yes
            replace c17 := of_decide_eq_true c17
            refine W_skip ?_
            refine F_seq ?_
            refine W_seq ?_
            refine W_block ?_
            refine W_seq ?_
            refine W_reg (.pure 0 .nil) rfl ?_
            refine LP rfl rfl rfl (xas rfl) ?_
            refine LZ ?_
            refine F_seq ?_
            refine W_seq ?_
            refine W_seq ?_
            refine W_reg (.pure 0 (.pure 1 (.pure 2 (.pure 3 (.one 4 .nil))))) rfl ?_
            refine LP rfl rfl rfl (xmv rfl) ?_
            refine LP rfl rfl rfl (xmv rfl) ?_
            obtain ⟨x1, hx1⟩ : ∃ x, ((decodeR t.code).1)[k]? = some x := ⟨_, List.getElem?_eq_getElem (by omega)⟩
            refine LP rfl rfl rfl (xix k un136 sz145 ho1.rd.sh rfl rfl (by omega) (by omega)) ?_
            refine LP rfl rfl rfl (xfa fa145_1 rfl) ?_
            refine LX rfl rfl rfl (xlef sc3 (RdE.le hl5 ho1.rd) hx1 rfl rfl) trivial ?_
            refine LZ ?_
            refine F_seq ?_
            refine W_block ?_
            refine W_seq ?_
            refine W_seq ?_
            refine W_reg (.pure 0 (.pure 1 .nil)) rfl ?_
            refine LP rfl rfl rfl (xeql rfl rfl) ?_
            refine LP rfl rfl rfl (xas rfl) ?_
            refine LZ ?_
            refine F_seq ?_
            refine W_split (t := 71) rfl (fun c18 => ?_) (fun c18 => ?_)
            · -- c18 yes
             replace c18 := of_decide_eq_true c18
             refine W_if rfl ?_
             refine W_skip ?_
             refine F_seq ?_
             refine W_if rfl ?_
             refine W_reg (.pure 0 (.one 1 (.pure 2 (.pure 3 .nil)))) rfl ?_
             refine LP rfl rfl rfl (xfa fa26_4 rfl) ?_
             refine LX rfl rfl rfl (xld sc24 rfl (cl_bk (Le.bk (hl2.trans (hl3.trans (hl4.trans hl5))) hb1) rfl)) trivial ?_
             refine LP rfl rfl rfl (xlen un24 htr.sh rfl) ?_
             refine LP rfl rfl rfl (xas rfl) ?_
             refine LZ ?_
             refine F_block ?_
             refine F_seq ?_
             refine W_seq ?_
             refine W_reg (.pure 0 (.pure 1 (.pure 2 (.pure 3 (.one 4 (.pure 5 (.pure 6 .nil))))))) rfl ?_
             refine LP rfl rfl rfl (xmv rfl) ?_
             refine LP rfl rfl rfl (xmv rfl) ?_
             refine LP rfl rfl rfl (xix k un136 sz145 ho1.rd.sh rfl rfl (by omega) (by omega)) ?_
             refine LP rfl rfl rfl (xfa fa145_4 rfl) ?_
             refine LX rfl rfl rfl (xlef sc2 (RdE.le hl5 ho1.rd) hx1 rfl rfl) trivial ?_
             refine LP rfl rfl rfl (xmv rfl) ?_
             refine LP rfl rfl rfl (xgeq rfl rfl) ?_
             refine LZ ?_
             refine F_seq ?_
             refine W_cond rfl (fun c20 => ?_) (fun c20 => ?_)
             · -- c20 yes
              replace c20 := of_decide_eq_true c20
              refine W_seq ?_
              refine W_reg (.pure 0 .nil) rfl ?_
              refine LP rfl rfl rfl (xas rfl) ?_
              refine LZ ?_
              refine F_seq ?_
              refine W_ret ?_
              refine F_ret_block ?_
              refine F_ret_then ?_
              refine F_ret_then ?_
              refine F_ret_block ?_
              refine F_ret_then ?_
              have e : checkR t = 132 := by exact check_idx (t := t) (by omega) (by omega) h3 h4 hx1 (by unfold idxBad; grind)
              exact F_end1 rfl rfl ⟨_, rfl, (by rw [e]; try rfl), (hl1.trans (hl2.trans (hl3.trans (hl4.trans hl5))))⟩
             · -- c20 no
              replace c20 := of_decide_eq_false c20
              refine W_skip ?_
              refine F_block ?_
              refine F_seq ?_
              refine W_reg (.pure 0 (.pure 1 (.pure 2 .nil))) rfl ?_
              refine LP rfl rfl rfl (xmv rfl) ?_
              refine LP rfl rfl rfl (xaddn rfl rfl (by omega)) ?_
              refine LP rfl rfl rfl (xas rfl) ?_
              refine LZ ?_
              exact F_roundv (k + 1) ⟨hl5, by omega, lt_step hnt hx1 (by unfold idxBad; grind)⟩ (by (try dsimp only); omega) (lk_loop 27 rfl rfl (hvc rfl hvn))
            · -- c18 no
             replace c18 := of_decide_eq_false c18
             refine W_else rfl ?_
             refine W_reg (.pure 0 (.pure 1 .nil)) rfl ?_
             refine LP rfl rfl rfl (xeql rfl rfl) ?_
             refine LP rfl rfl rfl (xas rfl) ?_
             refine LZ ?_
             refine F_seq ?_
             refine W_split (t := 71) rfl (fun c21 => ?_) (fun c21 => ?_)
             · -- c21 yes
              replace c21 := of_decide_eq_true c21
              refine W_if rfl ?_
              refine W_reg (.pure 0 (.one 1 (.pure 2 (.pure 3 .nil)))) rfl ?_
              refine LP rfl rfl rfl (xfa fa26_4 rfl) ?_
              refine LX rfl rfl rfl (xld sc24 rfl (cl_bk (Le.bk (hl2.trans (hl3.trans (hl4.trans hl5))) hb1) rfl)) trivial ?_
              refine LP rfl rfl rfl (xlen un24 htr.sh rfl) ?_
              refine LP rfl rfl rfl (xas rfl) ?_
              refine LZ ?_
              refine F_block ?_
              refine F_seq ?_
              refine W_seq ?_
              refine W_reg (.pure 0 (.pure 1 (.pure 2 (.pure 3 (.one 4 (.pure 5 (.pure 6 .nil))))))) rfl ?_
              refine LP rfl rfl rfl (xmv rfl) ?_
              refine LP rfl rfl rfl (xmv rfl) ?_
              refine LP rfl rfl rfl (xix k un136 sz145 ho1.rd.sh rfl rfl (by omega) (by omega)) ?_
              refine LP rfl rfl rfl (xfa fa145_4 rfl) ?_
              refine LX rfl rfl rfl (xlef sc2 (RdE.le hl5 ho1.rd) hx1 rfl rfl) trivial ?_
              refine LP rfl rfl rfl (xmv rfl) ?_
              refine LP rfl rfl rfl (xgeq rfl rfl) ?_
              refine LZ ?_
              refine F_seq ?_
              refine W_cond rfl (fun c22 => ?_) (fun c22 => ?_)
              · -- c22 yes
               replace c22 := of_decide_eq_true c22
               refine W_seq ?_
               refine W_reg (.pure 0 .nil) rfl ?_
               refine LP rfl rfl rfl (xas rfl) ?_
               refine LZ ?_
               refine F_seq ?_
               refine W_ret ?_
               refine F_ret_block ?_
               refine F_ret_then ?_
               refine F_ret_then ?_
               refine F_ret_block ?_
               refine F_ret_then ?_
               have e : checkR t = 132 := by exact check_idx (t := t) (by omega) (by omega) h3 h4 hx1 (by unfold idxBad; grind)
               exact F_end1 rfl rfl ⟨_, rfl, (by rw [e]; try rfl), (hl1.trans (hl2.trans (hl3.trans (hl4.trans hl5))))⟩
              · -- c22 no
               replace c22 := of_decide_eq_false c22
               refine W_skip ?_
               refine F_block ?_
               refine F_seq ?_
               refine W_reg (.pure 0 (.pure 1 (.pure 2 .nil))) rfl ?_
               refine LP rfl rfl rfl (xmv rfl) ?_
               refine LP rfl rfl rfl (xaddn rfl rfl (by omega)) ?_
               refine LP rfl rfl rfl (xas rfl) ?_
               refine LZ ?_
               exact F_roundv (k + 1) ⟨hl5, by omega, lt_step hnt hx1 (by unfold idxBad; grind)⟩ (by (try dsimp only); omega) (lk_loop 30 rfl rfl (hvc rfl hvn))
             · -- c21 no
              replace c21 := of_decide_eq_false c21
              refine W_else rfl ?_
              refine W_seq ?_
              refine W_seq ?_
              refine W_reg (.pure 0 (.pure 1 .nil)) rfl ?_
              refine LP rfl rfl rfl (xeql rfl rfl) ?_
              refine LP rfl rfl rfl (xas rfl) ?_
              refine LZ ?_
              refine F_seq ?_
              refine W_split (t := 77) rfl (fun c23 => ?_) (fun c23 => ?_)
              · -- c23 yes
               replace c23 := of_decide_eq_true c23
               refine W_if rfl ?_
               refine W_skip ?_
               refine F_seq ?_
               refine W_if rfl ?_
               refine W_reg (.pure 0 (.one 1 (.pure 2 (.pure 3 .nil)))) rfl ?_
               refine LP rfl rfl rfl (xfa fa26_5 rfl) ?_
               refine LX rfl rfl rfl (xld sc24 rfl (cl_bk (Le.bk (hl2.trans (hl3.trans (hl4.trans hl5))) hb1) rfl)) trivial ?_
               refine LP rfl rfl rfl (xlen un24 htw.sh rfl) ?_
               refine LP rfl rfl rfl (xas rfl) ?_
               refine LZ ?_
               refine F_block ?_
               refine F_seq ?_
               refine W_seq ?_
               refine W_reg (.pure 0 (.pure 1 (.pure 2 (.pure 3 (.one 4 (.pure 5 (.pure 6 .nil))))))) rfl ?_
               refine LP rfl rfl rfl (xmv rfl) ?_
               refine LP rfl rfl rfl (xmv rfl) ?_
               refine LP rfl rfl rfl (xix k un136 sz145 ho1.rd.sh rfl rfl (by omega) (by omega)) ?_
               refine LP rfl rfl rfl (xfa fa145_4 rfl) ?_
               refine LX rfl rfl rfl (xlef sc2 (RdE.le hl5 ho1.rd) hx1 rfl rfl) trivial ?_
               refine LP rfl rfl rfl (xmv rfl) ?_
               refine LP rfl rfl rfl (xgeq rfl rfl) ?_
               refine LZ ?_
               refine F_seq ?_
               refine W_cond rfl (fun c25 => ?_) (fun c25 => ?_)
               · -- c25 yes
                replace c25 := of_decide_eq_true c25
                refine W_seq ?_
                refine W_reg (.pure 0 .nil) rfl ?_
                refine LP rfl rfl rfl (xas rfl) ?_
                refine LZ ?_
                refine F_seq ?_
                refine W_ret ?_
                refine F_ret_block ?_
                refine F_ret_then ?_
                refine F_ret_then ?_
                refine F_ret_block ?_
                refine F_ret_then ?_
                have e : checkR t = 132 := by exact check_idx (t := t) (by omega) (by omega) h3 h4 hx1 (by unfold idxBad; grind)
                exact F_end1 rfl rfl ⟨_, rfl, (by rw [e]; try rfl), (hl1.trans (hl2.trans (hl3.trans (hl4.trans hl5))))⟩
               · -- c25 no
                replace c25 := of_decide_eq_false c25
                refine W_skip ?_
                refine F_block ?_
                refine F_seq ?_
                refine W_reg (.pure 0 (.pure 1 (.pure 2 .nil))) rfl ?_
                refine LP rfl rfl rfl (xmv rfl) ?_
                refine LP rfl rfl rfl (xaddn rfl rfl (by omega)) ?_
                refine LP rfl rfl rfl (xas rfl) ?_
                refine LZ ?_
                exact F_roundv (k + 1) ⟨hl5, by omega, lt_step hnt hx1 (by unfold idxBad; grind)⟩ (by (try dsimp only); omega) (lk_loop 33 rfl rfl (hvc rfl hvn))
              · -- c23 no
               replace c23 := of_decide_eq_false c23
               refine W_else rfl ?_
               refine W_reg (.pure 0 (.pure 1 .nil)) rfl ?_
               refine LP rfl rfl rfl (xeql rfl rfl) ?_
               refine LP rfl rfl rfl (xas rfl) ?_
               refine LZ ?_
               refine F_seq ?_
               refine W_split (t := 77) rfl (fun c26 => ?_) (fun c26 => ?_)
               · -- c26 yes
                replace c26 := of_decide_eq_true c26
                refine W_if rfl ?_
                refine W_reg (.pure 0 (.one 1 (.pure 2 (.pure 3 .nil)))) rfl ?_
                refine LP rfl rfl rfl (xfa fa26_5 rfl) ?_
                refine LX rfl rfl rfl (xld sc24 rfl (cl_bk (Le.bk (hl2.trans (hl3.trans (hl4.trans hl5))) hb1) rfl)) trivial ?_
                refine LP rfl rfl rfl (xlen un24 htw.sh rfl) ?_
                refine LP rfl rfl rfl (xas rfl) ?_
                refine LZ ?_
                refine F_block ?_
                refine F_seq ?_
                refine W_seq ?_
                refine W_reg (.pure 0 (.pure 1 (.pure 2 (.pure 3 (.one 4 (.pure 5 (.pure 6 .nil))))))) rfl ?_
                refine LP rfl rfl rfl (xmv rfl) ?_
                refine LP rfl rfl rfl (xmv rfl) ?_
                refine LP rfl rfl rfl (xix k un136 sz145 ho1.rd.sh rfl rfl (by omega) (by omega)) ?_
                refine LP rfl rfl rfl (xfa fa145_4 rfl) ?_
                refine LX rfl rfl rfl (xlef sc2 (RdE.le hl5 ho1.rd) hx1 rfl rfl) trivial ?_
                refine LP rfl rfl rfl (xmv rfl) ?_
                refine LP rfl rfl rfl (xgeq rfl rfl) ?_
                refine LZ ?_
                refine F_seq ?_
                refine W_cond rfl (fun c27 => ?_) (fun c27 => ?_)
                · -- c27 yes
                 replace c27 := of_decide_eq_true c27
                 refine W_seq ?_
                 refine W_reg (.pure 0 .nil) rfl ?_
                 refine LP rfl rfl rfl (xas rfl) ?_
                 refine LZ ?_
                 refine F_seq ?_
                 refine W_ret ?_
                 refine F_ret_block ?_
                 refine F_ret_then ?_
                 refine F_ret_then ?_
                 refine F_ret_block ?_
                 refine F_ret_then ?_
                 have e : checkR t = 132 := by exact check_idx (t := t) (by omega) (by omega) h3 h4 hx1 (by unfold idxBad; grind)
                 exact F_end1 rfl rfl ⟨_, rfl, (by rw [e]; try rfl), (hl1.trans (hl2.trans (hl3.trans (hl4.trans hl5))))⟩
                · -- c27 no
                 replace c27 := of_decide_eq_false c27
                 refine W_skip ?_
                 refine F_block ?_
                 refine F_seq ?_
                 refine W_reg (.pure 0 (.pure 1 (.pure 2 .nil))) rfl ?_
                 refine LP rfl rfl rfl (xmv rfl) ?_
                 refine LP rfl rfl rfl (xaddn rfl rfl (by omega)) ?_
                 refine LP rfl rfl rfl (xas rfl) ?_
                 refine LZ ?_
                 exact F_roundv (k + 1) ⟨hl5, by omega, lt_step hnt hx1 (by unfold idxBad; grind)⟩ (by (try dsimp only); omega) (lk_loop 36 rfl rfl (hvc rfl hvn))
               · -- c26 no
                replace c26 := of_decide_eq_false c26
                refine W_else rfl ?_
                refine W_seq ?_
                refine W_reg (.pure 0 (.pure 1 .nil)) rfl ?_
                refine LP rfl rfl rfl (xeql rfl rfl) ?_
                refine LP rfl rfl rfl (xas rfl) ?_
                refine LZ ?_
                refine F_seq ?_
                refine W_cond rfl (fun c28 => ?_) (fun c28 => ?_)
                · -- c28 yes
                 replace c28 := of_decide_eq_true c28
                 refine W_reg (.pure 0 (.one 1 (.pure 2 (.pure 3 .nil)))) rfl ?_
                 refine LP rfl rfl rfl (xfa fa26_3 rfl) ?_
                 refine LX rfl rfl rfl (xld sc23 rfl (cl_bk (Le.bk (hl2.trans (hl3.trans (hl4.trans hl5))) hb1) rfl)) trivial ?_
                 refine LP rfl rfl rfl (xlen un23 hta.sh rfl) ?_
                 refine LP rfl rfl rfl (xas rfl) ?_
                 refine LZ ?_
                 refine F_block ?_
                 refine F_seq ?_
                 refine W_seq ?_
                 refine W_reg (.pure 0 (.pure 1 (.pure 2 (.pure 3 (.one 4 (.pure 5 (.pure 6 .nil))))))) rfl ?_
                 refine LP rfl rfl rfl (xmv rfl) ?_
                 refine LP rfl rfl rfl (xmv rfl) ?_
                 refine LP rfl rfl rfl (xix k un136 sz145 ho1.rd.sh rfl rfl (by omega) (by omega)) ?_
                 refine LP rfl rfl rfl (xfa fa145_4 rfl) ?_
                 refine LX rfl rfl rfl (xlef sc2 (RdE.le hl5 ho1.rd) hx1 rfl rfl) trivial ?_
                 refine LP rfl rfl rfl (xmv rfl) ?_
                 refine LP rfl rfl rfl (xgeq rfl rfl) ?_
                 refine LZ ?_
                 refine F_seq ?_
                 refine W_cond rfl (fun c29 => ?_) (fun c29 => ?_)
                 · -- c29 yes
                  replace c29 := of_decide_eq_true c29
                  refine W_seq ?_
                  refine W_reg (.pure 0 .nil) rfl ?_
                  refine LP rfl rfl rfl (xas rfl) ?_
                  refine LZ ?_
                  refine F_seq ?_
                  refine W_ret ?_
                  refine F_ret_block ?_
                  refine F_ret_then ?_
                  refine F_ret_then ?_
                  refine F_ret_block ?_
                  refine F_ret_then ?_
                  have e : checkR t = 132 := by exact check_idx (t := t) (by omega) (by omega) h3 h4 hx1 (by unfold idxBad; grind)
                  exact F_end1 rfl rfl ⟨_, rfl, (by rw [e]; try rfl), (hl1.trans (hl2.trans (hl3.trans (hl4.trans hl5))))⟩
                 · -- c29 no
                  replace c29 := of_decide_eq_false c29
                  refine W_skip ?_
                  refine F_block ?_
                  refine F_seq ?_
                  refine W_reg (.pure 0 (.pure 1 (.pure 2 .nil))) rfl ?_
                  refine LP rfl rfl rfl (xmv rfl) ?_
                  refine LP rfl rfl rfl (xaddn rfl rfl (by omega)) ?_
                  refine LP rfl rfl rfl (xas rfl) ?_
                  refine LZ ?_
                  exact F_roundv (k + 1) ⟨hl5, by omega, lt_step hnt hx1 (by unfold idxBad; grind)⟩ (by (try dsimp only); omega) (lk_loop 38 rfl rfl (hvc rfl hvn))
                · -- c28 no
                 replace c28 := of_decide_eq_false c28
                 refine W_exit ?_
                 refine F_exit_on rfl ?_
                 refine F_exit_then ?_
                 refine F_exit_here ?_
                 refine F_seq ?_
                 refine W_reg (.pure 0 (.pure 1 (.pure 2 .nil))) rfl ?_
                 refine LP rfl rfl rfl (xmv rfl) ?_
                 refine LP rfl rfl rfl (xaddn rfl rfl (by omega)) ?_
                 refine LP rfl rfl rfl (xas rfl) ?_
                 refine LZ ?_
                 exact F_roundv (k + 1) ⟨hl5, by omega, lt_step hnt hx1 (by unfold idxBad; grind)⟩ (by (try dsimp only); omega) (lk_loop 27 rfl rfl (hvc rfl hvn))
           · -- c17 no
            replace c17 := of_decide_eq_false c17
            refine W_exit ?_
            refine F_exit_then ?_
            refine F_exit_then ?_
            refine F_exit_here ?_
            refine F_seq ?_
            refine W_seq ?_
            refine W_reg (.pure 0 .nil) rfl ?_
            refine LP rfl rfl rfl (xas rfl) ?_
            refine LZ ?_
            refine F_seq ?_
            refine W_ret ?_
            have e : checkR t = 0 := by exact check_ok (t := t) (by omega) (by omega) h3 h4 hnt (by omega)
            exact F_end1 rfl rfl ⟨_, rfl, (by rw [e]; try rfl), (hl1.trans (hl2.trans (hl3.trans (hl4.trans hl5))))⟩
end Go.Proofs.Ythmhbonhagjnnaa
