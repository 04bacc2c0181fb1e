/- Contracts: lists of keys and pairs, in order. -/
import Derived.Test.YthmhbonhagjnnaaProg
import Derived.Test.YthmhbonhagjnnaaA1
import Derived.KernelRfl
namespace Go.Proofs.Ythmhbonhagjnnaa
open Go.RowKit
set_option linter.unusedVariables false
set_option linter.unusedSimpArgs false
theorem has135 : Has Try.prog 135 Try.f135 := ⟨Try.func135, by kernel_rfl, rfl⟩
theorem el40 : El Try.prog 40 2 16 := by unfold El; kernel_rfl
theorem bs24_1 : ∀ (x0 : Key), BS Try.prog 24 40 1 [(0, (.agg (KeyE.f x0).toArray))] (KeyE.f x0).toArray := fun _ _ => by kernel_rfl
theorem bs24_0 : ∀ _ : Unit, BS Try.prog 24 40 0 [] ([]).toArray := fun _ _ => by kernel_rfl
theorem bs23_0 : ∀ _ : Unit, BS Try.prog 23 2 0 [] #[] := fun _ _ => by kernel_rfl
theorem el2 : El Try.prog 2 1 8 := by unfold El; kernel_rfl
theorem un22 : Try.prog.underlying 22 = some (.slice 5) := by kernel_rfl
theorem bs22_0 : ∀ _ : Unit, BS Try.prog 22 5 0 [] #[] := fun _ _ => by kernel_rfl
theorem el5 : El Try.prog 5 1 1 := by unfold El; kernel_rfl
theorem sz5 : ∀ w, (sizeOf 5).run Try.prog w = .ok 1 w := fun _ => by kernel_rfl
theorem keys11 {vl : Value} {l : List Key} {w : World} (hl : RdE w.heap KeyE vl l) (hn : l.length ≤ 4294967296) :
    Fn Try.prog 111 #[vl] w fun v w' => Le w w' ∧ Ow w' w 40 KeyE v (keysOf l) := by
 refine Fn.enter 62 [(0, _)] Try.func111 rfl rfl rfl rfl ?_
 have hzl := hl.sh.le
 refine W_seq ?_
 refine W_reg (.pure 0 .nil) rfl ?_
 refine LP rfl rfl rfl (xas rfl) ?_
 refine LZ ?_
 refine F_seq ?_
 refine W_seq ?_
 refine W_reg (.pure 0 .nil) rfl ?_
 refine LP rfl rfl rfl (xas rfl) ?_
 refine LZ ?_
 refine F_seq ?_
 refine W_seq ?_
 refine W_seq ?_
 refine W_reg (.pure 0 .nil) rfl ?_
 refine LP rfl rfl rfl (xas rfl) ?_
 refine LZ ?_
 refine F_seq ?_
 refine W_block ?_
 refine W_loopv (ι := Nat × Value × (List Key)) (fun ⟨i, vo, o⟩ => [(3, vo), (4, .int .i64 (i : Int))]) (fun ⟨i, vo, o⟩ w' => Le w w' ∧ i ≤ l.length ∧ o = keysOf (l.take i) ∧ Ow w' w 40 KeyE vo o) (fun ⟨i, vo, o⟩ => l.length - i) ⟨0, .slice none 0 0, []⟩ (hvc rfl (hvc rfl hvn)) ⟨Le.refl _, Nat.zero_le _, rfl, Ow.nil _ _ _ _⟩ ?_
 rintro ⟨i, vo, o⟩ w1 ⟨hl1, hi, hok, ho⟩
 show W _ _ _ _ _ ([(3, vo), (4, .int .i64 (i : Int))] ++ _) _
 have hol : o.length ≤ i := by rw [hok]; have := keysOf_len (l.take i); simp only [List.length_take] at this; omega
 refine W_seq ?_
 refine W_seq ?_
 refine W_reg (.pure 0 (.pure 1 (.pure 2 (.pure 3 .nil)))) rfl ?_
 refine LP rfl rfl rfl (xmv rfl) ?_
 refine LP rfl rfl rfl (xmv rfl) ?_
 refine LP rfl rfl rfl (xlen un24 hl.sh rfl) ?_
 refine LP rfl rfl rfl (xlss rfl rfl) ?_
 refine LZ ?_
 refine F_seq ?_
 refine W_cond rfl (fun c1 => ?_) (fun c1 => ?_)
 · -- c1 yes
  replace c1 := of_decide_eq_true c1
  obtain ⟨x, hx⟩ : ∃ x, l[i]? = some x := ⟨_, List.getElem?_eq_getElem (by omega)⟩
  refine W_skip ?_
  refine F_seq ?_
  refine W_seq ?_
  refine W_block ?_
  refine W_seq ?_
  refine W_reg (.pure 0 .nil) rfl ?_
  refine LP rfl rfl rfl (xas rfl) ?_
  refine LZ ?_
  refine F_seq ?_
  refine W_seq ?_
  refine W_block ?_
  refine W_loopv (ι := Nat) (fun j => [(5, .int .i64 (j : Int))]) (fun j w' => Le w1 w' ∧ j ≤ o.length ∧ ∀ y ∈ o.take j, cmpK y x < 0) (fun j => o.length - j) 0 (hvc rfl hvn) ⟨Le.refl _, Nat.zero_le _, by simp⟩ ?_
  rintro j w2 ⟨hl2, hj, hlt⟩
  refine W_seq ?_
  refine W_cutb 28 ((o[j]?).any (fun y => decide (cmpK y x < 0))) ?_ (fun w3 hl3 => ?_)
  ·
   refine W_draw (.pure 0 (.pure 1 (.pure 2 (.pure 3 (.pure 4 (.pure 5 (.pure 6 (.pure 7 (.still 8 (.pure 9 (.pure 10 (.pure 11 (.still 12 (.one 13 (.pure 14 (.pure 15 .nil)))))))))))))))) (Le w2) hfol (by kernel_rfl) (pkt (pkt (pkt (pkb (pkt (pkb (pkt (pkt (pkb (pkt pkB)))))))))) (Le.drew _) ?_
   refine LP rfl rfl rfl (xmv rfl) ?_
   refine LP rfl rfl rfl (xmv rfl) ?_
   refine LP rfl rfl rfl (xlen un24 ho.rd.sh rfl) ?_
   refine LP rfl rfl rfl (xlss rfl rfl) ?_
   refine LP rfl rfl rfl (xmv rfl) ?_
   refine L_split (t := 17) rfl (fun c2 => ?_) (fun c2 => ?_)
   · -- c2 yes
    replace c2 := of_decide_eq_true c2
    refine LP rfl rfl rfl (xmv rfl) ?_
    refine LP rfl rfl rfl (xmv rfl) ?_
    obtain ⟨x1, hx1⟩ : ∃ x, o[j]? = some x := ⟨_, List.getElem?_eq_getElem (by omega)⟩
    refine LP rfl rfl rfl (xix j un24 sz40 ho.rd.sh rfl rfl (by omega) (by omega)) ?_
    refine LS rfl rfl rfl (fun w' hw' => (xle ag40 (RdE.le (hl2.trans hw') ho.rd) hx1 rfl)) ?_
    refine LP rfl rfl rfl (xmv rfl) ?_
    refine LP rfl rfl rfl (xmv rfl) ?_
    refine LP rfl rfl rfl (xix i un24 sz40 hl.sh rfl rfl (by omega) (by omega)) ?_
    refine LS rfl rfl rfl (fun w' hw' => (xle ag40 (RdE.le ((hl1.trans hl2).trans hw') hl) hx rfl)) ?_
    refine LF rfl rfl rfl has135 rfl (cmp11 (a := x1) (b := x)) ?_
    rintro _ w4 ⟨rfl, hl4⟩
    refine ⟨((Le.drew w2).trans hl4), ?_⟩
    refine LP rfl rfl rfl (xlss rfl rfl) ?_
    refine LP rfl rfl rfl (xpk1 rfl rfl) ?_
    refine LZ ?_
    exact F_cutb 17 (by first | simp [hx1] | simp [List.getElem?_eq_none (show o.length ≤ j by omega)]) rfl rfl rfl ((Le.drew w2).trans hl4)
   · -- c2 no
    replace c2 := of_decide_eq_false c2
    refine LN rfl rfl rfl ?_
    refine LN rfl rfl rfl ?_
    refine LN rfl rfl rfl ?_
    refine LNs rfl rfl rfl ?_
    refine LN rfl rfl rfl ?_
    refine LN rfl rfl rfl ?_
    refine LN rfl rfl rfl ?_
    refine LNs rfl rfl rfl ?_
    refine LNo rfl rfl rfl (Le.drew w2) ?_
    refine LN rfl rfl rfl ?_
    refine LP rfl rfl rfl (xpk0 rfl rfl) ?_
    refine LZ ?_
    exact F_cutb 17 (by first | simp [hx1] | simp [List.getElem?_eq_none (show o.length ≤ j by omega)]) rfl rfl rfl (Le.drew w2)
  refine W_cond rfl (fun c3 => ?_) (fun c3 => ?_)
  · -- c3 yes
   try simp only [Bool.not_eq_true', Bool.not_eq_false', decide_eq_true_eq, decide_eq_false_iff_not] at c3
   obtain ⟨y, hy, hc⟩ : ∃ y, o[j]? = some y ∧ cmpK y x < 0 := by cases h : o[j]? with | none => rw [h] at c3; simp at c3 | some y => rw [h] at c3; exact ⟨y, rfl, by simpa using c3⟩
   refine W_skip ?_
   refine F_seq ?_
   refine W_block ?_
   refine W_reg (.pure 0 (.pure 1 (.pure 2 .nil))) rfl ?_
   refine LP rfl rfl rfl (xmv rfl) ?_
   refine LP rfl rfl rfl (xaddn rfl rfl (by omega)) ?_
   refine LP rfl rfl rfl (xas rfl) ?_
   refine LZ ?_
   refine F_block ?_
   exact F_roundv (j + 1) ⟨(hl2.trans hl3), by have := (List.getElem?_eq_some_iff.1 hy).1; omega, lt_step hlt hy hc⟩ (by (try dsimp only); have := (List.getElem?_eq_some_iff.1 hy).1; omega) (lk_loop 4 rfl rfl (hvc rfl hvn))
  · -- c3 no
   try simp only [Bool.not_eq_true', Bool.not_eq_false', decide_eq_true_eq, decide_eq_false_iff_not] at c3
   have hstop : ∀ y, o[j]? = some y → ¬ cmpK y x < 0 := fun y hy => by rw [hy] at c3; simpa using c3
   refine W_exit ?_
   refine F_exit_then ?_
   refine F_exit_then ?_
   refine F_exit_here ?_
   refine F_seq ?_
   refine W_seq ?_
   refine W_cutb 45 (decide (o[j]? = some x)) ?_ (fun w5 hl5 => ?_)
   ·
    refine W_draw (.pure 0 (.pure 1 (.pure 2 (.pure 3 (.pure 4 (.pure 5 (.pure 6 (.pure 7 (.still 8 (.pure 9 (.pure 10 (.pure 11 (.still 12 (.pure 13 (.pure 14 .nil))))))))))))))) (Le w3) hfol (by kernel_rfl) (pkt (pkt (pkb (pkt (pkt (pkb (pkt pkB))))))) (Le.drew _) ?_
    refine LP rfl rfl rfl (xmv rfl) ?_
    refine LP rfl rfl rfl (xmv rfl) ?_
    refine LP rfl rfl rfl (xlen un24 ho.rd.sh rfl) ?_
    refine LP rfl rfl rfl (xlss rfl rfl) ?_
    refine LP rfl rfl rfl (xmv rfl) ?_
    refine L_split (t := 35) rfl (fun c4 => ?_) (fun c4 => ?_)
    · -- c4 yes
     replace c4 := of_decide_eq_true c4
     refine LP rfl rfl rfl (xmv rfl) ?_
     refine LP rfl rfl rfl (xmv rfl) ?_
     obtain ⟨x2, hx2⟩ : ∃ x, o[j]? = some x := ⟨_, List.getElem?_eq_getElem (by omega)⟩
     refine LP rfl rfl rfl (xix j un24 sz40 ho.rd.sh rfl rfl (by omega) (by omega)) ?_
     refine LS rfl rfl rfl (fun w' hw' => (xle ag40 (RdE.le ((hl2.trans hl3).trans hw') ho.rd) hx2 rfl)) ?_
     refine LP rfl rfl rfl (xmv rfl) ?_
     refine LP rfl rfl rfl (xmv rfl) ?_
     refine LP rfl rfl rfl (xix i un24 sz40 hl.sh rfl rfl (by omega) (by omega)) ?_
     refine LS rfl rfl rfl (fun w' hw' => (xle ag40 (RdE.le ((hl1.trans (hl2.trans hl3)).trans hw') hl) hx rfl)) ?_
     refine LP rfl rfl rfl (xeqs x2 x eq40_KeyE rfl rfl) ?_
     refine LP rfl rfl rfl (xpk1 rfl rfl) ?_
     refine LZ ?_
     exact F_cutb 16 (by first | (simp [hx2]; done) | simp [List.getElem?_eq_none (show o.length ≤ j by omega)]) rfl rfl rfl (Le.drew w3)
    · -- c4 no
     replace c4 := of_decide_eq_false c4
     refine LN rfl rfl rfl ?_
     refine LN rfl rfl rfl ?_
     refine LN rfl rfl rfl ?_
     refine LNs rfl rfl rfl ?_
     refine LN rfl rfl rfl ?_
     refine LN rfl rfl rfl ?_
     refine LN rfl rfl rfl ?_
     refine LNs rfl rfl rfl ?_
     refine LN rfl rfl rfl ?_
     refine LP rfl rfl rfl (xpk0 rfl rfl) ?_
     refine LZ ?_
     exact F_cutb 16 (by first | (simp [hx2]; done) | simp [List.getElem?_eq_none (show o.length ≤ j by omega)]) rfl rfl rfl (Le.drew w3)
   refine W_cond rfl (fun c5 => ?_) (fun c5 => ?_)
   · -- c5 yes
    try simp only [Bool.not_eq_true', Bool.not_eq_false', decide_eq_true_eq, decide_eq_false_iff_not] at c5
    refine W_exit ?_
    refine F_exit_then ?_
    refine F_exit_here ?_
    refine F_seq ?_
    refine W_reg (.pure 0 (.pure 1 (.pure 2 .nil))) rfl ?_
    refine LP rfl rfl rfl (xmv rfl) ?_
    refine LP rfl rfl rfl (xaddn rfl rfl (by omega)) ?_
    refine LP rfl rfl rfl (xas rfl) ?_
    refine LZ ?_
    exact F_roundv ⟨i + 1, vo, o⟩ ⟨(hl1.trans (hl2.trans (hl3.trans hl5))), by omega, by rw [keys_step hx, ← hok, ins_same hlt c5], (ho.le (hl2.trans (hl3.trans hl5)))⟩ (by (try dsimp only); omega) (lk_loop 11 rfl rfl (hvc rfl (hvc rfl hvn)))
   · -- c5 no
    try simp only [Bool.not_eq_true', Bool.not_eq_false', decide_eq_true_eq, decide_eq_false_iff_not] at c5
    refine W_skip ?_
    refine F_seq ?_
    refine W_seq ?_
    refine W_reg (.pure 0 .nil) rfl ?_
    refine LP rfl rfl rfl (xas rfl) ?_
    refine LZ ?_
    refine F_seq ?_
    refine W_draw (.pure 0 (.pure 1 (.pure 2 (.pure 3 (.pure 5 (.pure 6 (.pure 7 (.still 8 (.pure 11 (.pure 12 (.pure 13 (.two 4 9 (.one 9 (.tail 10 (.tail 14 (.pure 15 .nil)))) (.one 4 (.tail 10 (.tail 14 (.pure 15 .nil)))))))))))))))) (Le w5) hfol (by kernel_rfl) (pkb (pkt (pkt (pkb (pkt pkB))))) (Le.drew _) ?_
    refine LP rfl rfl rfl (xmv rfl) ?_
    refine LP rfl rfl rfl (xmv rfl) ?_
    refine LP rfl rfl rfl (xmv rfl) ?_
    refine LP rfl rfl rfl (xsubh j un24 sz40 ho.rd.sh rfl rfl (by omega) (by first | omega | (simp only [List.length_append, List.length_take, List.length_drop, List.length_cons, List.length_nil, List.length_set, List.length_replicate, maxLen]; omega))) ?_
    refine LP rfl rfl rfl (xmv rfl) ?_
    refine LP rfl rfl rfl (xmv rfl) ?_
    refine LP rfl rfl rfl (xix i un24 sz40 hl.sh rfl rfl (by omega) (by omega)) ?_
    refine LS rfl rfl rfl (fun w' hw' => (xle ag40 (RdE.le ((hl1.trans (hl2.trans (hl3.trans hl5))).trans hw') hl) hx rfl)) ?_
    refine LP rfl rfl rfl (xmv rfl) ?_
    refine LP rfl rfl rfl (xmv rfl) ?_
    refine LP rfl rfl rfl (xsubl j un24 sz40 ho.rd.sh rfl rfl (by omega) (by first | omega | (simp only [List.length_append, List.length_take, List.length_drop, List.length_cons, List.length_nil, List.length_set, List.length_replicate, maxLen]; omega))) ?_
    refine L_two ?_ ?_
    ·
     refine LT rfl rfl rfl (xapp (E := KeyE) un24 el40 sz40 rfl (Ow.nil _ w5.drew 40 KeyE) (RdE.take (RdE.le (hl2.trans (hl3.trans (hl5.trans (Le.drew w5)))) ho.rd) (by first | omega | (simp only [List.length_append, List.length_take, List.length_drop, List.length_cons, List.length_nil, List.length_set, List.length_replicate, maxLen]; omega))) (Le.refl _) (by simp only [List.length_append, List.length_take, List.length_drop, List.length_cons, List.length_nil, maxLen]; omega) (by simp only [List.length_append, List.length_take, List.length_drop, List.length_cons, List.length_nil, maxLen]; omega) rfl rfl) ?_
     rintro v2 w6 ⟨hl6, ho1, hg1⟩
     refine ⟨((Le.drew w5).trans hl6), ?_⟩
     refine LT rfl rfl rfl (xbs rfl (bs24_1 x)) ?_
     rintro _ w7 ⟨b1, rfl, hl7, hb1, hb1z⟩
     refine ⟨((Le.drew w5).trans (hl6.trans hl7)), ?_⟩
     have hr1 : Ow w7 w6 40 KeyE _ [x] := Ow.of_bk hb1 rfl hb1z (Nat.le_of_ble_eq_true rfl)
     refine LTt rfl rfl rfl (xapp (E := KeyE) un24 el40 sz40 rfl (ho1.le hl7) hr1.rd (hl6.trans hl7) (by simp only [List.length_append, List.length_take, List.length_drop, List.length_cons, List.length_nil, maxLen]; omega) (by simp only [List.length_append, List.length_take, List.length_drop, List.length_cons, List.length_nil, maxLen]; omega) rfl rfl) ?_
     rintro v3 w8 ⟨hl8, ho2, hg2⟩
     have hk1 := hg2.lx.ow (Ow.off_new hr1 ho1 (Nat.le_refl _)) hr1
     have hof1 := Apd.off hg2 (Ow.off_old ho1 hr1 (Nat.le_refl _)) (fun i hi => Nat.lt_of_lt_of_le (Ow.lt hr1 i hi) (Nat.le_refl _))
     refine LTt rfl rfl rfl (xapp (E := KeyE) un24 el40 sz40 rfl ho2 (RdE.drop (RdE.le (hl2.trans (hl3.trans (hl5.trans ((Le.drew w5).trans hl8)))) ho.rd) (by first | omega | (simp only [List.length_append, List.length_take, List.length_drop, List.length_cons, List.length_nil, List.length_set, List.length_replicate, maxLen]; omega))) hl8 (by simp only [List.length_append, List.length_take, List.length_drop, List.length_cons, List.length_nil, maxLen]; omega) (by simp only [List.length_append, List.length_take, List.length_drop, List.length_cons, List.length_nil, maxLen]; omega) rfl rfl) ?_
     rintro v4 w9 ⟨hl9, ho3, hg3⟩
     have hk2 := hg3.lx.ow (Off.symm hof1) hk1
     have hof2 := Apd.off hg3 hof1 (fun i hi => Nat.lt_of_lt_of_le (Ow.lt hk1 i hi) (Nat.le_refl _))
     refine LP rfl rfl rfl (xas rfl) ?_
     refine LZ ?_
     refine F_block ?_
     refine F_seq ?_
     refine W_reg (.pure 0 (.pure 1 (.pure 2 .nil))) rfl ?_
     refine LP rfl rfl rfl (xmv rfl) ?_
     refine LP rfl rfl rfl (xaddn rfl rfl (by omega)) ?_
     refine LP rfl rfl rfl (xas rfl) ?_
     refine LZ ?_
     exact F_roundv ⟨i + 1, _, _⟩ ⟨(hl1.trans (hl2.trans (hl3.trans (hl5.trans ((Le.drew w5).trans hl9))))), by omega, by rw [keys_step hx, ← hok, ins_new hlt hstop c5]; simp, (ho3).base ((hl1.trans (hl2.trans (hl3.trans (hl5.trans (Le.drew w5))))).size)⟩ (by (try dsimp only); omega) (lk_loop 28 rfl rfl (hvc rfl (hvc rfl hvn)))
    ·
     refine LT rfl rfl rfl (xbs rfl (bs24_1 x)) ?_
     rintro _ w10 ⟨b2, rfl, hl10, hb2, hb2z⟩
     refine ⟨((Le.drew w5).trans hl10), ?_⟩
     have hr2 : Ow w10 w5.drew 40 KeyE _ [x] := Ow.of_bk hb2 rfl hb2z (Nat.le_of_ble_eq_true rfl)
     refine LT rfl rfl rfl (xapp (E := KeyE) un24 el40 sz40 rfl (Ow.nil _ w10 40 KeyE) (RdE.take (RdE.le (hl2.trans (hl3.trans (hl5.trans ((Le.drew w5).trans hl10)))) ho.rd) (by first | omega | (simp only [List.length_append, List.length_take, List.length_drop, List.length_cons, List.length_nil, List.length_set, List.length_replicate, maxLen]; omega))) (Le.refl _) (by simp only [List.length_append, List.length_take, List.length_drop, List.length_cons, List.length_nil, maxLen]; omega) (by simp only [List.length_append, List.length_take, List.length_drop, List.length_cons, List.length_nil, maxLen]; omega) rfl rfl) ?_
     rintro v5 w11 ⟨hl11, ho4, hg4⟩
     refine ⟨((Le.drew w5).trans (hl10.trans hl11)), ?_⟩
     refine LTt rfl rfl rfl (xapp (E := KeyE) un24 el40 sz40 rfl ho4 (RdE.le hl11 hr2.rd) hl11 (by simp only [List.length_append, List.length_take, List.length_drop, List.length_cons, List.length_nil, maxLen]; omega) (by simp only [List.length_append, List.length_take, List.length_drop, List.length_cons, List.length_nil, maxLen]; omega) rfl rfl) ?_
     rintro v6 w12 ⟨hl12, ho5, hg5⟩
     refine LTt rfl rfl rfl (xapp (E := KeyE) un24 el40 sz40 rfl ho5 (RdE.drop (RdE.le (hl2.trans (hl3.trans (hl5.trans ((Le.drew w5).trans (hl10.trans hl12))))) ho.rd) (by first | omega | (simp only [List.length_append, List.length_take, List.length_drop, List.length_cons, List.length_nil, List.length_set, List.length_replicate, maxLen]; omega))) hl12 (by simp only [List.length_append, List.length_take, List.length_drop, List.length_cons, List.length_nil, maxLen]; omega) (by simp only [List.length_append, List.length_take, List.length_drop, List.length_cons, List.length_nil, maxLen]; omega) rfl rfl) ?_
     rintro v7 w13 ⟨hl13, ho6, hg6⟩
     refine LP rfl rfl rfl (xas rfl) ?_
     refine LZ ?_
     refine F_block ?_
     refine F_seq ?_
     refine W_reg (.pure 0 (.pure 1 (.pure 2 .nil))) rfl ?_
     refine LP rfl rfl rfl (xmv rfl) ?_
     refine LP rfl rfl rfl (xaddn rfl rfl (by omega)) ?_
     refine LP rfl rfl rfl (xas rfl) ?_
     refine LZ ?_
     exact F_roundv ⟨i + 1, _, _⟩ ⟨(hl1.trans (hl2.trans (hl3.trans (hl5.trans ((Le.drew w5).trans (hl10.trans hl13)))))), by omega, by rw [keys_step hx, ← hok, ins_new hlt hstop c5]; simp, (ho6).base ((hl1.trans (hl2.trans (hl3.trans (hl5.trans ((Le.drew w5).trans hl10))))).size)⟩ (by (try dsimp only); omega) (lk_loop 28 rfl rfl (hvc rfl (hvc rfl hvn)))
 · -- c1 no
  replace c1 := of_decide_eq_false c1
  refine W_exit ?_
  refine F_exit_then ?_
  refine F_exit_then ?_
  refine F_exit_here ?_
  refine F_seq ?_
  refine W_seq ?_
  refine W_reg (.pure 0 (.pure 1 .nil)) rfl ?_
  refine LP rfl rfl rfl (xmv rfl) ?_
  refine LP rfl rfl rfl (xas rfl) ?_
  refine LZ ?_
  refine F_seq ?_
  refine W_ret ?_
  obtain rfl : i = l.length := by omega
  rw [List.take_length] at hok
  subst hok
  exact F_end1 rfl rfl ⟨_, rfl, hl1, ho⟩
theorem cloneK {vl : Value} {l : List Key} {w : World} (hl : RdE w.heap KeyE vl l) (hn : l.length ≤ 4294967296) :
    Fn Try.prog 115 #[vl] w fun v w' => Le w w' ∧ Ow w' w 40 KeyE v l := by
 refine Fn.enter 8 [(0, _)] Try.func115 rfl rfl rfl rfl ?_
 refine W_seq ?_
 refine W_reg (.pure 0 .nil) rfl ?_
 refine LP rfl rfl rfl (xas rfl) ?_
 refine LZ ?_
 refine F_seq ?_
 refine W_seq ?_
 refine W_seq ?_
 refine W_reg (.pure 0 (.pure 1 .nil)) rfl ?_
 refine LP rfl rfl rfl (xmv rfl) ?_
 refine LP rfl rfl rfl (xsnil un24 hl.sh rfl rfl) ?_
 refine LZ ?_
 refine F_seq ?_
 refine W_cond rfl (fun c1 => ?_) (fun c1 => ?_)
 · -- c1 yes
  refine W_seq ?_
  refine W_reg (.pure 0 .nil) rfl ?_
  refine LP rfl rfl rfl (xas rfl) ?_
  refine LZ ?_
  refine F_seq ?_
  refine W_ret ?_
  refine F_ret_then ?_
  obtain rfl : l = [] := List.eq_nil_of_length_eq_zero (nil_len hl.sh c1)
  exact F_end1 rfl rfl ⟨_, rfl, (Le.refl _), Ow.nil _ _ _ _⟩
 · -- c1 no
  refine W_skip ?_
  refine F_seq ?_
  refine W_seq ?_
  refine W_reg (.one 0 (.pure 1 (.one 2 (.pure 3 .nil)))) rfl ?_
  refine LT rfl rfl rfl (xbs rfl (bs24_0 ())) ?_
  rintro _ w1 ⟨b1, rfl, hl1, hb1, hb1z⟩
  refine ⟨trivial, ?_⟩
  have hr1 : Ow w1 w 40 KeyE _ [] := Ow.of_bk hb1 rfl hb1z (Nat.le_of_ble_eq_true rfl)
  refine LP rfl rfl rfl (xmv rfl) ?_
  refine LT rfl rfl rfl (xapp (E := KeyE) un24 el40 sz40 rfl hr1 (RdE.le hl1 hl) hl1 (by simp only [List.length_append, List.length_take, List.length_drop, List.length_cons, List.length_nil, maxLen]; omega) (by simp only [List.length_append, List.length_take, List.length_drop, List.length_cons, List.length_nil, maxLen]; omega) rfl rfl) ?_
  rintro v1 w2 ⟨hl2, ho1, hg1⟩
  refine ⟨trivial, ?_⟩
  refine LP rfl rfl rfl (xas rfl) ?_
  refine LZ ?_
  refine F_seq ?_
  refine W_ret ?_
  exact F_end1 rfl rfl ⟨_, rfl, hl2, by simpa using ho1.base (Le.refl _).size⟩
theorem cloneI {vl : Value} {l : List Int} {w : World} (hl : RdE w.heap IntE vl l) (hn : l.length ≤ 4294967296) :
    Fn Try.prog 110 #[vl] w fun v w' => Le w w' ∧ Ow w' w 2 IntE v l := by
 refine Fn.enter 8 [(0, _)] Try.func110 rfl rfl rfl rfl ?_
 refine W_seq ?_
 refine W_reg (.pure 0 .nil) rfl ?_
 refine LP rfl rfl rfl (xas rfl) ?_
 refine LZ ?_
 refine F_seq ?_
 refine W_seq ?_
 refine W_seq ?_
 refine W_reg (.pure 0 (.pure 1 .nil)) rfl ?_
 refine LP rfl rfl rfl (xmv rfl) ?_
 refine LP rfl rfl rfl (xsnil un23 hl.sh rfl rfl) ?_
 refine LZ ?_
 refine F_seq ?_
 refine W_cond rfl (fun c1 => ?_) (fun c1 => ?_)
 · -- c1 yes
  refine W_seq ?_
  refine W_reg (.pure 0 .nil) rfl ?_
  refine LP rfl rfl rfl (xas rfl) ?_
  refine LZ ?_
  refine F_seq ?_
  refine W_ret ?_
  refine F_ret_then ?_
  obtain rfl : l = [] := List.eq_nil_of_length_eq_zero (nil_len hl.sh c1)
  exact F_end1 rfl rfl ⟨_, rfl, (Le.refl _), Ow.nil _ _ _ _⟩
 · -- c1 no
  refine W_skip ?_
  refine F_seq ?_
  refine W_seq ?_
  refine W_reg (.one 0 (.pure 1 (.one 2 (.pure 3 .nil)))) rfl ?_
  refine LT rfl rfl rfl (xbs rfl (bs23_0 ())) ?_
  rintro _ w1 ⟨b1, rfl, hl1, hb1, hb1z⟩
  refine ⟨trivial, ?_⟩
  have hr1 : Ow w1 w 2 IntE _ [] := Ow.of_bk hb1 rfl hb1z (Nat.le_of_ble_eq_true rfl)
  refine LP rfl rfl rfl (xmv rfl) ?_
  refine LT rfl rfl rfl (xapp (E := IntE) un23 el2 sz2 rfl hr1 (RdE.le hl1 hl) hl1 (by simp only [List.length_append, List.length_take, List.length_drop, List.length_cons, List.length_nil, maxLen]; omega) (by simp only [List.length_append, List.length_take, List.length_drop, List.length_cons, List.length_nil, maxLen]; omega) rfl rfl) ?_
  rintro v1 w2 ⟨hl2, ho1, hg1⟩
  refine ⟨trivial, ?_⟩
  refine LP rfl rfl rfl (xas rfl) ?_
  refine LZ ?_
  refine F_seq ?_
  refine W_ret ?_
  exact F_end1 rfl rfl ⟨_, rfl, hl2, by simpa using ho1.base (Le.refl _).size⟩
theorem cloneB {vl : Value} {l : List Int} {w : World} (hl : RdE w.heap ByteE vl l) (hn : l.length ≤ 4294967296) :
    Fn Try.prog 114 #[vl] w fun v w' => Le w w' ∧ Ow w' w 5 ByteE v l := by
 refine Fn.enter 8 [(0, _)] Try.func114 rfl rfl rfl rfl ?_
 refine W_seq ?_
 refine W_reg (.pure 0 .nil) rfl ?_
 refine LP rfl rfl rfl (xas rfl) ?_
 refine LZ ?_
 refine F_seq ?_
 refine W_seq ?_
 refine W_seq ?_
 refine W_reg (.pure 0 (.pure 1 .nil)) rfl ?_
 refine LP rfl rfl rfl (xmv rfl) ?_
 refine LP rfl rfl rfl (xsnil un22 hl.sh rfl rfl) ?_
 refine LZ ?_
 refine F_seq ?_
 refine W_cond rfl (fun c1 => ?_) (fun c1 => ?_)
 · -- c1 yes
  refine W_seq ?_
  refine W_reg (.pure 0 .nil) rfl ?_
  refine LP rfl rfl rfl (xas rfl) ?_
  refine LZ ?_
  refine F_seq ?_
  refine W_ret ?_
  refine F_ret_then ?_
  obtain rfl : l = [] := List.eq_nil_of_length_eq_zero (nil_len hl.sh c1)
  exact F_end1 rfl rfl ⟨_, rfl, (Le.refl _), Ow.nil _ _ _ _⟩
 · -- c1 no
  refine W_skip ?_
  refine F_seq ?_
  refine W_seq ?_
  refine W_reg (.one 0 (.pure 1 (.one 2 (.pure 3 .nil)))) rfl ?_
  refine LT rfl rfl rfl (xbs rfl (bs22_0 ())) ?_
  rintro _ w1 ⟨b1, rfl, hl1, hb1, hb1z⟩
  refine ⟨trivial, ?_⟩
  have hr1 : Ow w1 w 5 ByteE _ [] := Ow.of_bk hb1 rfl hb1z (Nat.le_of_ble_eq_true rfl)
  refine LP rfl rfl rfl (xmv rfl) ?_
  refine LT rfl rfl rfl (xapp (E := ByteE) un22 el5 sz5 rfl hr1 (RdE.le hl1 hl) hl1 (by simp only [List.length_append, List.length_take, List.length_drop, List.length_cons, List.length_nil, maxLen]; omega) (by simp only [List.length_append, List.length_take, List.length_drop, List.length_cons, List.length_nil, maxLen]; omega) rfl rfl) ?_
  rintro v1 w2 ⟨hl2, ho1, hg1⟩
  refine ⟨trivial, ?_⟩
  refine LP rfl rfl rfl (xas rfl) ?_
  refine LZ ?_
  refine F_seq ?_
  refine W_ret ?_
  exact F_end1 rfl rfl ⟨_, rfl, hl2, by simpa using ho1.base (Le.refl _).size⟩
end Go.Proofs.Ythmhbonhagjnnaa
