/- Contracts: orders and comparisons of keys. -/
import Derived.Test.YthmhbonhagjnnaaProg
import Derived.Test.YthmhbonhagjnnaaVa
import Derived.KernelRfl
namespace Go.Proofs.Ythmhbonhagjnnaa
open Go.RowKit
set_option linter.unusedVariables false
set_option linter.unusedSimpArgs false
theorem hfol : Try.prog.follows .mixedOrders = true := by kernel_rfl
theorem un21 : Try.prog.underlying 21 = some (.int .i32) := by kernel_rfl
theorem sc21 : Sc Try.prog 21 := fun _ => by kernel_rfl
theorem un2 : Try.prog.underlying 2 = some (.int .i64) := by kernel_rfl
theorem sc2 : Sc Try.prog 2 := fun _ => by kernel_rfl
theorem ein40_KeyE (d : Nat) (x y : Key) (w : World) : (Op.equalIn (d + 2) 40 (.agg (KeyE.f x).toArray) (.agg (KeyE.f y).toArray)).run Try.prog w = .ok (decide (x = y)) w := by
  rw [eqIn_agg [(false, 21, 0), (false, 2, 1)] (by kernel_rfl) (by kernel_rfl) (by kernel_rfl)]
  obtain ⟨a, b⟩ := x
  obtain ⟨c, e⟩ := y
  simp only [eqSum, part, sc21 _, sc2 _, KeyE, Sem.run_bind, Result.andThen_ok, if_true, Bool.false_eq_true, if_false, Sem.run_pure, List.getElem?_toArray, List.getElem?_cons_zero, List.getElem?_cons_succ, run_equalIn_int _ _ _ _ _ _ _ un21, run_equalIn_int _ _ _ _ _ _ _ un2]
  by_cases h1 : a = c <;> by_cases h2 : b = e <;> simp [h1, h2, run_equalIn_int _ _ _ _ _ _ _ un2]
theorem eq40_KeyE : EqE Try.prog 40 KeyE := EqE.of (by kernel_rfl) fun x y w => ein40_KeyE 9998 x y w
theorem fa40_0 : FA Try.prog 40 0 0 := fun _ _ _ => by kernel_rfl
theorem fa40_1 : FA Try.prog 40 1 1 := fun _ _ _ => by kernel_rfl
theorem ag40 : Ag Try.prog 40 2 := ⟨fun _ => by kernel_rfl, fun _ => by kernel_rfl⟩
theorem un24 : Try.prog.underlying 24 = some (.slice 40) := by kernel_rfl
theorem sz40 : ∀ w, (sizeOf 40).run Try.prog w = .ok 2 w := fun _ => by kernel_rfl
theorem un23 : Try.prog.underlying 23 = some (.slice 2) := by kernel_rfl
theorem sz2 : ∀ w, (sizeOf 2).run Try.prog w = .ok 1 w := fun _ => by kernel_rfl
theorem has157 : Has Try.prog 157 Try.f157 := ⟨Try.func157, by kernel_rfl, rfl⟩
theorem has158 : Has Try.prog 158 Try.f158 := ⟨Try.func158, by kernel_rfl, rfl⟩
theorem un223 : Try.prog.underlying 223 = some (.slice 3) := by kernel_rfl
theorem sz3 : ∀ w, (sizeOf 3).run Try.prog w = .ok 1 w := fun _ => by kernel_rfl
theorem sc3 : Sc Try.prog 3 := fun _ => by kernel_rfl
theorem has148 : Has Try.prog 148 Try.f148 := ⟨Try.func148, by kernel_rfl, rfl⟩
theorem has149 : Has Try.prog 149 Try.f149 := ⟨Try.func149, by kernel_rfl, rfl⟩
theorem bs223_2 : ∀ (x0 : Int) (x1 : Int), BS Try.prog 223 3 2 [(0, .int .i64 x0), (1, .int .i64 x1)] #[.int .i64 x0, .int .i64 x1] := fun _ _ _ => by kernel_rfl
theorem has147 : Has Try.prog 147 Try.f147 := ⟨Try.func147, by kernel_rfl, rfl⟩
theorem cmp11 {a b : Key} {w : World} :
    Fn Try.prog 135 #[(.agg (KeyE.f a).toArray), (.agg (KeyE.f b).toArray)] w fun v w' => v = .int .i64 (cmpK a b) ∧ Le w w' := by
 refine Fn.enter 27 [(0, _), (1, _)] Try.func135 rfl rfl rfl rfl ?_
 refine W_seq ?_
 refine W_reg (.one 0 (.one 1 (.pure 2 .nil))) rfl ?_
 refine LT rfl rfl rfl (xbox rfl) ?_
 rintro _ w1 ⟨b1, rfl, hl1, hb1, hb1z⟩
 refine ⟨trivial, ?_⟩
 refine LT rfl rfl rfl (xbox rfl) ?_
 rintro _ w2 ⟨b2, rfl, hl2, hb2, hb2z⟩
 refine ⟨trivial, ?_⟩
 refine LP rfl rfl rfl (xas rfl) ?_
 refine LZ ?_
 refine F_seq ?_
 refine W_seq ?_
 refine W_cutb 23 (decide (a.1 < b.1 ∨ a.1 = b.1 ∧ a.2 < b.2)) ?_ (fun w3 hl3 => ?_)
 ·
  refine W_reg (.pure 0 (.one 1 (.pure 2 (.one 3 (.pure 4 (.pure 5 (.pure 6 (.one 7 (.pure 8 (.one 9 (.pure 10 (.pure 11 (.pure 12 (.one 13 (.pure 14 (.one 15 (.pure 16 (.pure 17 (.pure 18 .nil))))))))))))))))))) rfl ?_
  refine LP rfl rfl rfl (xfa fa40_0 rfl) ?_
  refine LX rfl rfl rfl (xld sc21 rfl (cl_bk (Le.bk hl2 hb1) rfl)) trivial ?_
  refine LP rfl rfl rfl (xfa fa40_0 rfl) ?_
  refine LX rfl rfl rfl (xld sc21 rfl (cl_bk hb2 rfl)) trivial ?_
  refine LP rfl rfl rfl (xlss rfl rfl) ?_
  refine LP rfl rfl rfl (xmv rfl) ?_
  refine L_split (t := 10) rfl (fun c1 => ?_) (fun c1 => ?_)
  · -- c1 yes
   replace c1 := of_decide_eq_true c1
   refine LN rfl rfl rfl ?_
   refine LNo rfl rfl rfl trivial ?_
   refine LN rfl rfl rfl ?_
   refine LNo rfl rfl rfl trivial ?_
   refine LN rfl rfl rfl ?_
   refine LN rfl rfl rfl ?_
   refine LN rfl rfl rfl ?_
   refine LNo rfl rfl rfl trivial ?_
   refine LN rfl rfl rfl ?_
   refine LNo rfl rfl rfl trivial ?_
   refine LN rfl rfl rfl ?_
   refine LN rfl rfl rfl ?_
   refine LP rfl rfl rfl (xpk1 rfl rfl) ?_
   refine LZ ?_
   exact F_cutb 20 (by first | (simp [*]; done) | (simp only [true_eq_decide_iff, false_eq_decide_iff]; omega)) rfl rfl rfl (Le.refl _)
  · -- c1 no
   replace c1 := of_decide_eq_false c1
   refine LP rfl rfl rfl (xfa fa40_0 rfl) ?_
   refine LX rfl rfl rfl (xld sc21 rfl (cl_bk (Le.bk hl2 hb1) rfl)) trivial ?_
   refine LP rfl rfl rfl (xfa fa40_0 rfl) ?_
   refine LX rfl rfl rfl (xld sc21 rfl (cl_bk hb2 rfl)) trivial ?_
   refine LP rfl rfl rfl (xeql rfl rfl) ?_
   refine LP rfl rfl rfl (xmv rfl) ?_
   refine L_split (t := 16) rfl (fun c2 => ?_) (fun c2 => ?_)
   · -- c2 yes
    replace c2 := of_decide_eq_true c2
    refine LP rfl rfl rfl (xfa fa40_1 rfl) ?_
    refine LX rfl rfl rfl (xld sc2 rfl (cl_bk (Le.bk hl2 hb1) rfl)) trivial ?_
    refine LP rfl rfl rfl (xfa fa40_1 rfl) ?_
    refine LX rfl rfl rfl (xld sc2 rfl (cl_bk hb2 rfl)) trivial ?_
    refine LP rfl rfl rfl (xlss rfl rfl) ?_
    refine LP rfl rfl rfl (xpk1 rfl rfl) ?_
    refine LP rfl rfl rfl (xpk0 rfl rfl) ?_
    refine LZ ?_
    exact F_cutb 21 (by first | (simp [*]; done) | (simp only [true_eq_decide_iff, false_eq_decide_iff]; omega)) rfl rfl rfl (Le.refl _)
   · -- c2 no
    replace c2 := of_decide_eq_false c2
    refine LN rfl rfl rfl ?_
    refine LNo rfl rfl rfl trivial ?_
    refine LN rfl rfl rfl ?_
    refine LNo rfl rfl rfl trivial ?_
    refine LN rfl rfl rfl ?_
    refine LP rfl rfl rfl (xpk0 rfl rfl) ?_
    refine LP rfl rfl rfl (xpk0 rfl rfl) ?_
    refine LZ ?_
    exact F_cutb 21 (by first | (simp [*]; done) | (simp only [true_eq_decide_iff, false_eq_decide_iff]; omega)) rfl rfl rfl (Le.refl _)
 refine W_cond rfl (fun c3 => ?_) (fun c3 => ?_)
 · -- c3 yes
  try simp only [Bool.not_eq_true', Bool.not_eq_false', decide_eq_true_eq, decide_eq_false_iff_not] at c3
  refine W_seq ?_
  refine W_reg (.pure 0 .nil) rfl ?_
  refine LP rfl rfl rfl (xas rfl) ?_
  refine LZ ?_
  refine F_seq ?_
  refine W_ret ?_
  refine F_ret_then ?_
  exact F_end1 rfl rfl ⟨_, rfl, by first | (simp [cmpK, *]; done) | (subst_vars; simp [cmpK]), (hl1.trans (hl2.trans hl3))⟩
 · -- c3 no
  try simp only [Bool.not_eq_true', Bool.not_eq_false', decide_eq_true_eq, decide_eq_false_iff_not] at c3
  refine W_skip ?_
  refine F_seq ?_
  refine W_seq ?_
  refine W_seq ?_
  refine W_reg (.one 0 (.one 1 (.pure 2 .nil))) rfl ?_
  refine LX rfl rfl rfl (xlb2 ag40 (Le.bk (hl2.trans hl3) hb1) rfl rfl rfl) trivial ?_
  refine LX rfl rfl rfl (xlb2 ag40 (Le.bk hl3 hb2) rfl rfl rfl) trivial ?_
  refine LP rfl rfl rfl (xeqs a b eq40_KeyE rfl rfl) ?_
  refine LZ ?_
  refine F_seq ?_
  refine W_cond rfl (fun c4 => ?_) (fun c4 => ?_)
  · -- c4 yes
   replace c4 := of_decide_eq_true c4
   refine W_seq ?_
   refine W_reg (.pure 0 .nil) rfl ?_
   refine LP rfl rfl rfl (xas rfl) ?_
   refine LZ ?_
   refine F_seq ?_
   refine W_ret ?_
   refine F_ret_then ?_
   exact F_end1 rfl rfl ⟨_, rfl, by first | (simp [cmpK, *]; done) | (subst_vars; simp [cmpK]), (hl1.trans (hl2.trans hl3))⟩
  · -- c4 no
   replace c4 := of_decide_eq_false c4
   refine W_skip ?_
   refine F_seq ?_
   refine W_seq ?_
   refine W_reg (.pure 0 .nil) rfl ?_
   refine LP rfl rfl rfl (xas rfl) ?_
   refine LZ ?_
   refine F_seq ?_
   refine W_ret ?_
   exact F_end1 rfl rfl ⟨_, rfl, by first | (simp [cmpK, *]; done) | (subst_vars; simp [cmpK]), (hl1.trans (hl2.trans hl3))⟩
theorem same11 {va vb : Value} {a b : List Key} {w : World} (ha : RdE w.heap KeyE va a) (hb : RdE w.heap KeyE vb b) :
    Fn Try.prog 68 #[va, vb] w fun v w' => v = .bool (decide (a = b)) ∧ Le w w' := by
 refine Fn.enter 26 [(0, _), (1, _)] Try.func68 rfl rfl rfl rfl ?_
 have hza := ha.sh.le
 have hzb := hb.sh.le
 refine W_seq ?_
 refine W_reg (.pure 0 .nil) rfl ?_
 refine LP rfl rfl rfl (xas rfl) ?_
 refine LZ ?_
 refine F_seq ?_
 refine W_seq ?_
 refine W_seq ?_
 refine W_reg (.pure 0 (.pure 1 (.pure 2 (.pure 3 (.pure 4 .nil))))) rfl ?_
 refine LP rfl rfl rfl (xmv rfl) ?_
 refine LP rfl rfl rfl (xlen un24 ha.sh rfl) ?_
 refine LP rfl rfl rfl (xmv rfl) ?_
 refine LP rfl rfl rfl (xlen un24 hb.sh rfl) ?_
 refine LP rfl rfl rfl (xneq rfl rfl) ?_
 refine LZ ?_
 refine F_seq ?_
 refine W_cond rfl (fun c1 => ?_) (fun c1 => ?_)
 · -- c1 yes
  try simp only [Bool.not_eq_true', Bool.not_eq_false', decide_eq_true_eq, decide_eq_false_iff_not] at c1
  refine W_seq ?_
  refine W_reg (.pure 0 .nil) rfl ?_
  refine LP rfl rfl rfl (xas rfl) ?_
  refine LZ ?_
  refine F_seq ?_
  refine W_ret ?_
  refine F_ret_then ?_
  exact F_end1 rfl rfl ⟨_, rfl, by rw [decide_eq_false (ne_len (by simpa using c1))], (Le.refl _)⟩
 · -- c1 no
  try simp only [Bool.not_eq_true', Bool.not_eq_false', decide_eq_true_eq, decide_eq_false_iff_not] at c1
  refine W_skip ?_
  refine F_seq ?_
  refine W_seq ?_
  refine W_seq ?_
  refine W_reg (.pure 0 .nil) rfl ?_
  refine LP rfl rfl rfl (xas rfl) ?_
  refine LZ ?_
  refine F_seq ?_
  refine W_block ?_
  refine W_loopv (ι := Nat) (fun k => [(5, .int .i64 (k : Int))]) (fun k w' => Le w w' ∧ k ≤ a.length ∧ a.take k = b.take k) (fun k => a.length - k) 0 (hvc rfl hvn) ⟨Le.refl _, Nat.zero_le _, rfl⟩ ?_
  rintro k w1 ⟨hl1, hk, ht⟩
  refine W_seq ?_
  refine W_seq ?_
  refine W_reg (.pure 0 (.pure 1 (.pure 2 (.pure 3 .nil)))) rfl ?_
  refine LP rfl rfl rfl (xmv rfl) ?_
  refine LP rfl rfl rfl (xmv rfl) ?_
  refine LP rfl rfl rfl (xlen un24 ha.sh rfl) ?_
  refine LP rfl rfl rfl (xlss rfl rfl) ?_
  refine LZ ?_
  refine F_seq ?_
  refine W_cond rfl (fun c2 => ?_) (fun c2 => ?_)
  · -- c2 yes
   replace c2 := of_decide_eq_true c2
   refine W_skip ?_
   refine F_seq ?_
   refine W_seq ?_
   refine W_block ?_
   refine W_seq ?_
   refine W_draw (.pure 0 (.pure 1 (.pure 2 (.still 3 (.pure 4 (.pure 5 (.pure 6 (.still 7 (.pure 8 .nil))))))))) (Le w1) hfol (by kernel_rfl) (pkt (pkb (pkt (pkt (pkb (pkt pkB)))))) (Le.drew _) ?_
   refine LP rfl rfl rfl (xmv rfl) ?_
   refine LP rfl rfl rfl (xmv rfl) ?_
   obtain ⟨x1, hx1⟩ : ∃ x, a[k]? = some x := ⟨_, List.getElem?_eq_getElem (by omega)⟩
   refine LP rfl rfl rfl (xix k un24 sz40 ha.sh rfl rfl (by omega) (by omega)) ?_
   refine LS rfl rfl rfl (fun w' hw' => (xle ag40 (RdE.le (hl1.trans hw') ha) hx1 rfl)) ?_
   refine LP rfl rfl rfl (xmv rfl) ?_
   refine LP rfl rfl rfl (xmv rfl) ?_
   obtain ⟨x2, hx2⟩ : ∃ x, b[k]? = some x := ⟨_, List.getElem?_eq_getElem (by omega)⟩
   refine LP rfl rfl rfl (xix k un24 sz40 hb.sh rfl rfl (by omega) (by omega)) ?_
   refine LS rfl rfl rfl (fun w' hw' => (xle ag40 (RdE.le (hl1.trans hw') hb) hx2 rfl)) ?_
   refine LP rfl rfl rfl (xnes x1 x2 eq40_KeyE rfl rfl) ?_
   refine LZ ?_
   refine F_seq ?_
   refine W_cond rfl (fun c3 => ?_) (fun c3 => ?_)
   · -- c3 yes
    try simp only [Bool.not_eq_true', Bool.not_eq_false', decide_eq_true_eq, decide_eq_false_iff_not] at c3
    refine W_seq ?_
    refine W_reg (.pure 0 .nil) rfl ?_
    refine LP rfl rfl rfl (xas rfl) ?_
    refine LZ ?_
    refine F_seq ?_
    refine W_ret ?_
    refine F_ret_block ?_
    refine F_ret_then ?_
    refine F_ret_then ?_
    refine F_ret_block ?_
    refine F_ret_then ?_
    exact F_end1 rfl rfl ⟨_, rfl, by rw [decide_eq_false (ne_at hx1 hx2 (by simpa using c3))], (hl1.trans (Le.drew w1))⟩
   · -- c3 no
    try simp only [Bool.not_eq_true', Bool.not_eq_false', decide_eq_true_eq, decide_eq_false_iff_not] at c3
    refine W_skip ?_
    refine F_block ?_
    refine F_seq ?_
    refine W_reg (.pure 0 (.pure 1 (.pure 2 .nil))) rfl ?_
    refine LP rfl rfl rfl (xmv rfl) ?_
    refine LP rfl rfl rfl (xaddn rfl rfl (by omega)) ?_
    refine LP rfl rfl rfl (xas rfl) ?_
    refine LZ ?_
    exact F_roundv (k + 1) ⟨(hl1.trans (Le.drew w1)), by omega, take_step ht hx1 hx2 (by first | exact c3 | (simpa using c3))⟩ (by (try dsimp only); omega) (lk_loop 16 rfl rfl (hvc rfl hvn))
  · -- c2 no
   replace c2 := of_decide_eq_false c2
   refine W_exit ?_
   refine F_exit_then ?_
   refine F_exit_then ?_
   refine F_exit_here ?_
   refine F_seq ?_
   refine W_seq ?_
   refine W_reg (.pure 0 .nil) rfl ?_
   refine LP rfl rfl rfl (xas rfl) ?_
   refine LZ ?_
   refine F_seq ?_
   refine W_ret ?_
   exact F_end1 rfl rfl ⟨_, rfl, by rw [decide_eq_true (take_all ht (by omega) (by omega))], hl1⟩
theorem sameV25 {va vb : Value} {a b : List Int} {w : World} (ha : RdE w.heap IntE va a) (hb : RdE w.heap IntE vb b) :
    Fn Try.prog 67 #[va, vb] w fun v w' => v = .bool (decide (a = b)) ∧ Le w w' := by
 refine Fn.enter 26 [(0, _), (1, _)] Try.func67 rfl rfl rfl rfl ?_
 have hza := ha.sh.le
 have hzb := hb.sh.le
 refine W_seq ?_
 refine W_reg (.pure 0 .nil) rfl ?_
 refine LP rfl rfl rfl (xas rfl) ?_
 refine LZ ?_
 refine F_seq ?_
 refine W_seq ?_
 refine W_seq ?_
 refine W_reg (.pure 0 (.pure 1 (.pure 2 (.pure 3 (.pure 4 .nil))))) rfl ?_
 refine LP rfl rfl rfl (xmv rfl) ?_
 refine LP rfl rfl rfl (xlen un23 ha.sh rfl) ?_
 refine LP rfl rfl rfl (xmv rfl) ?_
 refine LP rfl rfl rfl (xlen un23 hb.sh rfl) ?_
 refine LP rfl rfl rfl (xneq rfl rfl) ?_
 refine LZ ?_
 refine F_seq ?_
 refine W_cond rfl (fun c1 => ?_) (fun c1 => ?_)
 · -- c1 yes
  try simp only [Bool.not_eq_true', Bool.not_eq_false', decide_eq_true_eq, decide_eq_false_iff_not] at c1
  refine W_seq ?_
  refine W_reg (.pure 0 .nil) rfl ?_
  refine LP rfl rfl rfl (xas rfl) ?_
  refine LZ ?_
  refine F_seq ?_
  refine W_ret ?_
  refine F_ret_then ?_
  exact F_end1 rfl rfl ⟨_, rfl, by rw [decide_eq_false (ne_len (by simpa using c1))], (Le.refl _)⟩
 · -- c1 no
  try simp only [Bool.not_eq_true', Bool.not_eq_false', decide_eq_true_eq, decide_eq_false_iff_not] at c1
  refine W_skip ?_
  refine F_seq ?_
  refine W_seq ?_
  refine W_seq ?_
  refine W_reg (.pure 0 .nil) rfl ?_
  refine LP rfl rfl rfl (xas rfl) ?_
  refine LZ ?_
  refine F_seq ?_
  refine W_block ?_
  refine W_loopv (ι := Nat) (fun k => [(5, .int .i64 (k : Int))]) (fun k w' => Le w w' ∧ k ≤ a.length ∧ a.take k = b.take k) (fun k => a.length - k) 0 (hvc rfl hvn) ⟨Le.refl _, Nat.zero_le _, rfl⟩ ?_
  rintro k w1 ⟨hl1, hk, ht⟩
  refine W_seq ?_
  refine W_seq ?_
  refine W_reg (.pure 0 (.pure 1 (.pure 2 (.pure 3 .nil)))) rfl ?_
  refine LP rfl rfl rfl (xmv rfl) ?_
  refine LP rfl rfl rfl (xmv rfl) ?_
  refine LP rfl rfl rfl (xlen un23 ha.sh rfl) ?_
  refine LP rfl rfl rfl (xlss rfl rfl) ?_
  refine LZ ?_
  refine F_seq ?_
  refine W_cond rfl (fun c2 => ?_) (fun c2 => ?_)
  · -- c2 yes
   replace c2 := of_decide_eq_true c2
   refine W_skip ?_
   refine F_seq ?_
   refine W_seq ?_
   refine W_block ?_
   refine W_seq ?_
   refine W_draw (.pure 0 (.pure 1 (.pure 2 (.still 3 (.pure 4 (.pure 5 (.pure 6 (.still 7 (.pure 8 .nil))))))))) (Le w1) hfol (by kernel_rfl) (pkt (pkb (pkt (pkt (pkb (pkt pkB)))))) (Le.drew _) ?_
   refine LP rfl rfl rfl (xmv rfl) ?_
   refine LP rfl rfl rfl (xmv rfl) ?_
   obtain ⟨x1, hx1⟩ : ∃ x, a[k]? = some x := ⟨_, List.getElem?_eq_getElem (by omega)⟩
   refine LP rfl rfl rfl (xix k un23 sz2 ha.sh rfl rfl (by omega) (by omega)) ?_
   refine LS rfl rfl rfl (fun w' hw' => (xle1 sc2 (RdE.le (hl1.trans hw') ha) hx1 rfl rfl)) ?_
   refine LP rfl rfl rfl (xmv rfl) ?_
   refine LP rfl rfl rfl (xmv rfl) ?_
   obtain ⟨x2, hx2⟩ : ∃ x, b[k]? = some x := ⟨_, List.getElem?_eq_getElem (by omega)⟩
   refine LP rfl rfl rfl (xix k un23 sz2 hb.sh rfl rfl (by omega) (by omega)) ?_
   refine LS rfl rfl rfl (fun w' hw' => (xle1 sc2 (RdE.le (hl1.trans hw') hb) hx2 rfl rfl)) ?_
   refine LP rfl rfl rfl (xneq rfl rfl) ?_
   refine LZ ?_
   refine F_seq ?_
   refine W_cond rfl (fun c3 => ?_) (fun c3 => ?_)
   · -- c3 yes
    try simp only [Bool.not_eq_true', Bool.not_eq_false', decide_eq_true_eq, decide_eq_false_iff_not] at c3
    refine W_seq ?_
    refine W_reg (.pure 0 .nil) rfl ?_
    refine LP rfl rfl rfl (xas rfl) ?_
    refine LZ ?_
    refine F_seq ?_
    refine W_ret ?_
    refine F_ret_block ?_
    refine F_ret_then ?_
    refine F_ret_then ?_
    refine F_ret_block ?_
    refine F_ret_then ?_
    exact F_end1 rfl rfl ⟨_, rfl, by rw [decide_eq_false (ne_at hx1 hx2 (by simpa using c3))], (hl1.trans (Le.drew w1))⟩
   · -- c3 no
    try simp only [Bool.not_eq_true', Bool.not_eq_false', decide_eq_true_eq, decide_eq_false_iff_not] at c3
    refine W_skip ?_
    refine F_block ?_
    refine F_seq ?_
    refine W_reg (.pure 0 (.pure 1 (.pure 2 .nil))) rfl ?_
    refine LP rfl rfl rfl (xmv rfl) ?_
    refine LP rfl rfl rfl (xaddn rfl rfl (by omega)) ?_
    refine LP rfl rfl rfl (xas rfl) ?_
    refine LZ ?_
    exact F_roundv (k + 1) ⟨(hl1.trans (Le.drew w1)), by omega, take_step ht hx1 hx2 (by first | exact c3 | (simpa using c3))⟩ (by (try dsimp only); omega) (lk_loop 16 rfl rfl (hvc rfl hvn))
  · -- c2 no
   replace c2 := of_decide_eq_false c2
   refine W_exit ?_
   refine F_exit_then ?_
   refine F_exit_then ?_
   refine F_exit_here ?_
   refine F_seq ?_
   refine W_seq ?_
   refine W_reg (.pure 0 .nil) rfl ?_
   refine LP rfl rfl rfl (xas rfl) ?_
   refine LZ ?_
   refine F_seq ?_
   refine W_ret ?_
   exact F_end1 rfl rfl ⟨_, rfl, by rw [decide_eq_true (take_all ht (by omega) (by omega))], hl1⟩
theorem nan32 {x : Int} {w : World} :
    Fn Try.prog 157 #[.int .i32 x] w fun v w' => v = .bool false ∧ Le w w' := by
 refine Fn.enter 6 [(0, _)] Try.func157 rfl rfl rfl rfl ?_
 refine W_seq ?_
 refine W_reg (.pure 0 .nil) rfl ?_
 refine LP rfl rfl rfl (xas rfl) ?_
 refine LZ ?_
 refine F_seq ?_
 refine W_seq ?_
 refine W_reg (.pure 0 (.pure 1 (.pure 2 (.pure 3 .nil)))) rfl ?_
 refine LP rfl rfl rfl (xmv rfl) ?_
 refine LP rfl rfl rfl (xmv rfl) ?_
 refine LP rfl rfl rfl (xneq rfl rfl) ?_
 refine L_is 5 (v := .bool false) rfl (by simp) ?_
 refine LP rfl rfl rfl (xas rfl) ?_
 refine LZ ?_
 refine F_seq ?_
 refine W_ret ?_
 exact F_end1 rfl rfl ⟨_, rfl, by simp, (Le.refl _)⟩
theorem nan64 {x : Int} {w : World} :
    Fn Try.prog 158 #[.int .i64 x] w fun v w' => v = .bool false ∧ Le w w' := by
 refine Fn.enter 6 [(0, _)] Try.func158 rfl rfl rfl rfl ?_
 refine W_seq ?_
 refine W_reg (.pure 0 .nil) rfl ?_
 refine LP rfl rfl rfl (xas rfl) ?_
 refine LZ ?_
 refine F_seq ?_
 refine W_seq ?_
 refine W_reg (.pure 0 (.pure 1 (.pure 2 (.pure 3 .nil)))) rfl ?_
 refine LP rfl rfl rfl (xmv rfl) ?_
 refine LP rfl rfl rfl (xmv rfl) ?_
 refine LP rfl rfl rfl (xneq rfl rfl) ?_
 refine L_is 5 (v := .bool false) rfl (by simp) ?_
 refine LP rfl rfl rfl (xas rfl) ?_
 refine LZ ?_
 refine F_seq ?_
 refine W_ret ?_
 exact F_end1 rfl rfl ⟨_, rfl, by simp, (Le.refl _)⟩
theorem cmpi32 {x y : Int} {w : World} :
    Fn Try.prog 148 #[.int .i32 x, .int .i32 y] w fun v w' => v = .int .i64 (cmpI x y) ∧ Le w w' := by
 refine Fn.enter 20 [(0, _), (1, _)] Try.func148 rfl rfl rfl rfl ?_
 refine W_seq ?_
 refine W_reg (.pure 0 .nil) rfl ?_
 refine LP rfl rfl rfl (xas rfl) ?_
 refine LZ ?_
 refine F_seq ?_
 refine W_seq ?_
 refine W_reg (.pure 0 (.one 1 (.pure 2 .nil))) rfl ?_
 refine LP rfl rfl rfl (xmv rfl) ?_
 refine LF rfl rfl rfl has157 rfl (nan32) ?_
 rintro _ w1 ⟨rfl, hl1⟩
 refine ⟨trivial, ?_⟩
 refine LP rfl rfl rfl (xas rfl) ?_
 refine LZ ?_
 refine F_seq ?_
 refine W_seq ?_
 refine W_reg (.pure 0 (.one 1 (.pure 2 .nil))) rfl ?_
 refine LP rfl rfl rfl (xmv rfl) ?_
 refine LF rfl rfl rfl has157 rfl (nan32) ?_
 rintro _ w2 ⟨rfl, hl2⟩
 refine ⟨trivial, ?_⟩
 refine LP rfl rfl rfl (xas rfl) ?_
 refine LZ ?_
 refine F_seq ?_
 refine W_seq ?_
 refine W_seq ?_
 refine W_reg (.pure 0 .nil) rfl ?_
 refine LP rfl rfl rfl (xmv rfl) ?_
 refine LZ ?_
 refine F_seq ?_
 refine W_else rfl ?_
 refine W_skip ?_
 refine F_seq ?_
 refine W_seq ?_
 refine W_seq ?_
 refine W_reg (.pure 0 .nil) rfl ?_
 refine LP rfl rfl rfl (xmv rfl) ?_
 refine LZ ?_
 refine F_seq ?_
 refine W_else rfl ?_
 refine W_skip ?_
 refine F_seq ?_
 refine W_seq ?_
 refine W_seq ?_
 refine W_reg (.pure 0 (.pure 1 (.pure 2 .nil))) rfl ?_
 refine LP rfl rfl rfl (xmv rfl) ?_
 refine LP rfl rfl rfl (xmv rfl) ?_
 refine LP rfl rfl rfl (xlss rfl rfl) ?_
 refine LZ ?_
 refine F_seq ?_
 refine W_cond rfl (fun c3 => ?_) (fun c3 => ?_)
 · -- c3 yes
  replace c3 := of_decide_eq_true c3
  refine W_seq ?_
  refine W_reg (.pure 0 .nil) rfl ?_
  refine LP rfl rfl rfl (xas rfl) ?_
  refine LZ ?_
  refine F_seq ?_
  refine W_ret ?_
  refine F_ret_then ?_
  exact F_end1 rfl rfl ⟨_, rfl, by first | (simp [cmpI, *]; done) | (rw [cmpI, if_neg (by omega), if_pos (by omega)]) | (rw [cmpI, if_neg (by omega), if_neg (by omega)]), (hl1.trans hl2)⟩
 · -- c3 no
  replace c3 := of_decide_eq_false c3
  refine W_skip ?_
  refine F_seq ?_
  refine W_seq ?_
  refine W_seq ?_
  refine W_reg (.pure 0 (.pure 1 (.pure 2 .nil))) rfl ?_
  refine LP rfl rfl rfl (xmv rfl) ?_
  refine LP rfl rfl rfl (xmv rfl) ?_
  refine LP rfl rfl rfl (xgtr rfl rfl) ?_
  refine LZ ?_
  refine F_seq ?_
  refine W_cond rfl (fun c4 => ?_) (fun c4 => ?_)
  · -- c4 yes
   replace c4 := of_decide_eq_true c4
   refine W_seq ?_
   refine W_reg (.pure 0 .nil) rfl ?_
   refine LP rfl rfl rfl (xas rfl) ?_
   refine LZ ?_
   refine F_seq ?_
   refine W_ret ?_
   refine F_ret_then ?_
   exact F_end1 rfl rfl ⟨_, rfl, by first | (simp [cmpI, *]; done) | (rw [cmpI, if_neg (by omega), if_pos (by omega)]) | (rw [cmpI, if_neg (by omega), if_neg (by omega)]), (hl1.trans hl2)⟩
  · -- c4 no
   replace c4 := of_decide_eq_false c4
   refine W_skip ?_
   refine F_seq ?_
   refine W_seq ?_
   refine W_reg (.pure 0 .nil) rfl ?_
   refine LP rfl rfl rfl (xas rfl) ?_
   refine LZ ?_
   refine F_seq ?_
   refine W_ret ?_
   exact F_end1 rfl rfl ⟨_, rfl, by first | (simp [cmpI, *]; done) | (rw [cmpI, if_neg (by omega), if_pos (by omega)]) | (rw [cmpI, if_neg (by omega), if_neg (by omega)]), (hl1.trans hl2)⟩
theorem cmpi64 {x y : Int} {w : World} :
    Fn Try.prog 149 #[.int .i64 x, .int .i64 y] w fun v w' => v = .int .i64 (cmpI x y) ∧ Le w w' := by
 refine Fn.enter 20 [(0, _), (1, _)] Try.func149 rfl rfl rfl rfl ?_
 refine W_seq ?_
 refine W_reg (.pure 0 .nil) rfl ?_
 refine LP rfl rfl rfl (xas rfl) ?_
 refine LZ ?_
 refine F_seq ?_
 refine W_seq ?_
 refine W_reg (.pure 0 (.one 1 (.pure 2 .nil))) rfl ?_
 refine LP rfl rfl rfl (xmv rfl) ?_
 refine LF rfl rfl rfl has158 rfl (nan64) ?_
 rintro _ w1 ⟨rfl, hl1⟩
 refine ⟨trivial, ?_⟩
 refine LP rfl rfl rfl (xas rfl) ?_
 refine LZ ?_
 refine F_seq ?_
 refine W_seq ?_
 refine W_reg (.pure 0 (.one 1 (.pure 2 .nil))) rfl ?_
 refine LP rfl rfl rfl (xmv rfl) ?_
 refine LF rfl rfl rfl has158 rfl (nan64) ?_
 rintro _ w2 ⟨rfl, hl2⟩
 refine ⟨trivial, ?_⟩
 refine LP rfl rfl rfl (xas rfl) ?_
 refine LZ ?_
 refine F_seq ?_
 refine W_seq ?_
 refine W_seq ?_
 refine W_reg (.pure 0 .nil) rfl ?_
 refine LP rfl rfl rfl (xmv rfl) ?_
 refine LZ ?_
 refine F_seq ?_
 refine W_else rfl ?_
 refine W_skip ?_
 refine F_seq ?_
 refine W_seq ?_
 refine W_seq ?_
 refine W_reg (.pure 0 .nil) rfl ?_
 refine LP rfl rfl rfl (xmv rfl) ?_
 refine LZ ?_
 refine F_seq ?_
 refine W_else rfl ?_
 refine W_skip ?_
 refine F_seq ?_
 refine W_seq ?_
 refine W_seq ?_
 refine W_reg (.pure 0 (.pure 1 (.pure 2 .nil))) rfl ?_
 refine LP rfl rfl rfl (xmv rfl) ?_
 refine LP rfl rfl rfl (xmv rfl) ?_
 refine LP rfl rfl rfl (xlss rfl rfl) ?_
 refine LZ ?_
 refine F_seq ?_
 refine W_cond rfl (fun c3 => ?_) (fun c3 => ?_)
 · -- c3 yes
  replace c3 := of_decide_eq_true c3
  refine W_seq ?_
  refine W_reg (.pure 0 .nil) rfl ?_
  refine LP rfl rfl rfl (xas rfl) ?_
  refine LZ ?_
  refine F_seq ?_
  refine W_ret ?_
  refine F_ret_then ?_
  exact F_end1 rfl rfl ⟨_, rfl, by first | (simp [cmpI, *]; done) | (rw [cmpI, if_neg (by omega), if_pos (by omega)]) | (rw [cmpI, if_neg (by omega), if_neg (by omega)]), (hl1.trans hl2)⟩
 · -- c3 no
  replace c3 := of_decide_eq_false c3
  refine W_skip ?_
  refine F_seq ?_
  refine W_seq ?_
  refine W_seq ?_
  refine W_reg (.pure 0 (.pure 1 (.pure 2 .nil))) rfl ?_
  refine LP rfl rfl rfl (xmv rfl) ?_
  refine LP rfl rfl rfl (xmv rfl) ?_
  refine LP rfl rfl rfl (xgtr rfl rfl) ?_
  refine LZ ?_
  refine F_seq ?_
  refine W_cond rfl (fun c4 => ?_) (fun c4 => ?_)
  · -- c4 yes
   replace c4 := of_decide_eq_true c4
   refine W_seq ?_
   refine W_reg (.pure 0 .nil) rfl ?_
   refine LP rfl rfl rfl (xas rfl) ?_
   refine LZ ?_
   refine F_seq ?_
   refine W_ret ?_
   refine F_ret_then ?_
   exact F_end1 rfl rfl ⟨_, rfl, by first | (simp [cmpI, *]; done) | (rw [cmpI, if_neg (by omega), if_pos (by omega)]) | (rw [cmpI, if_neg (by omega), if_neg (by omega)]), (hl1.trans hl2)⟩
  · -- c4 no
   replace c4 := of_decide_eq_false c4
   refine W_skip ?_
   refine F_seq ?_
   refine W_seq ?_
   refine W_reg (.pure 0 .nil) rfl ?_
   refine LP rfl rfl rfl (xas rfl) ?_
   refine LZ ?_
   refine F_seq ?_
   refine W_ret ?_
   exact F_end1 rfl rfl ⟨_, rfl, by first | (simp [cmpI, *]; done) | (rw [cmpI, if_neg (by omega), if_pos (by omega)]) | (rw [cmpI, if_neg (by omega), if_neg (by omega)]), (hl1.trans hl2)⟩
theorem or_int {vl : Value} {l : List Int} {w : World} (hl : RdE w.heap IntE vl l) :
    Fn Try.prog 147 #[vl] w fun v w' => v = .int .i64 (orI l) ∧ Le w w' := by
 refine Fn.enter 18 [(0, _)] Try.func147 rfl rfl rfl rfl ?_
 have hzl := hl.sh.le
 refine W_seq ?_
 refine W_reg (.pure 0 .nil) rfl ?_
 refine LP rfl rfl rfl (xas rfl) ?_
 refine LZ ?_
 refine F_seq ?_
 refine W_seq ?_
 refine W_reg (.pure 0 .nil) rfl ?_
 refine LP rfl rfl rfl (xas rfl) ?_
 refine LZ ?_
 refine F_seq ?_
 refine W_seq ?_
 refine W_seq ?_
 refine W_reg (.pure 0 (.pure 1 (.pure 2 .nil))) rfl ?_
 refine LP rfl rfl rfl (xmv rfl) ?_
 refine LP rfl rfl rfl (xlen un223 hl.sh rfl) ?_
 refine LP rfl rfl rfl (xmv rfl) ?_
 refine LZ ?_
 refine F_seq ?_
 refine W_block ?_
 refine W_loopv (ι := Nat) (fun k => [(8, .int .i64 (k : Int))]) (fun k w' => Le w w' ∧ k ≤ l.length ∧ ∀ x ∈ l.take k, x = 0) (fun k => l.length - k) 0 (hvc rfl hvn) ⟨Le.refl _, Nat.zero_le _, by simp⟩ ?_
 rintro k w1 ⟨hl1, hk, ht⟩
 refine W_seq ?_
 refine W_reg (.pure 0 .nil) rfl ?_
 refine LP rfl rfl rfl (xlss rfl rfl) ?_
 refine LZ ?_
 refine F_seq ?_
 refine W_seq ?_
 refine W_cond rfl (fun c1 => ?_) (fun c1 => ?_)
 · -- c1 yes
  replace c1 := of_decide_eq_true c1
  refine W_skip ?_
  refine F_seq ?_
  refine W_seq ?_
  refine W_block ?_
  refine W_seq ?_
  refine W_reg (.pure 0 (.one 1 (.pure 2 .nil))) rfl ?_
  obtain ⟨x1, hx1⟩ : ∃ x, l[k]? = some x := ⟨_, List.getElem?_eq_getElem (by omega)⟩
  refine LP rfl rfl rfl (xix k un223 sz3 hl.sh rfl rfl (by omega) (by omega)) ?_
  refine LX rfl rfl rfl (xle1 sc3 (RdE.le hl1 hl) hx1 rfl rfl) trivial ?_
  refine LP rfl rfl rfl (xas rfl) ?_
  refine LZ ?_
  refine F_seq ?_
  refine W_seq ?_
  refine W_reg (.pure 0 (.pure 1 (.pure 2 .nil))) rfl ?_
  refine LP rfl rfl rfl (xmv rfl) ?_
  refine LP rfl rfl rfl (xmv rfl) ?_
  refine LP rfl rfl rfl (xneq rfl rfl) ?_
  refine LZ ?_
  refine F_seq ?_
  refine W_cond rfl (fun c2 => ?_) (fun c2 => ?_)
  · -- c2 yes
   try simp only [Bool.not_eq_true', Bool.not_eq_false', decide_eq_true_eq, decide_eq_false_iff_not] at c2
   refine W_seq ?_
   refine W_reg (.pure 0 (.pure 1 .nil)) rfl ?_
   refine LP rfl rfl rfl (xmv rfl) ?_
   refine LP rfl rfl rfl (xas rfl) ?_
   refine LZ ?_
   refine F_seq ?_
   refine W_ret ?_
   refine F_ret_block ?_
   refine F_ret_then ?_
   refine F_ret_then ?_
   refine F_ret_block ?_
   refine F_ret_then ?_
   exact F_end1 rfl rfl ⟨_, rfl, by rw [or_found ht hx1 (by simpa using c2)], hl1⟩
  · -- c2 no
   try simp only [Bool.not_eq_true', Bool.not_eq_false', decide_eq_true_eq, decide_eq_false_iff_not] at c2
   refine W_skip ?_
   refine F_block ?_
   refine F_seq ?_
   refine W_reg (.pure 0 (.pure 1 .nil)) rfl ?_
   refine LP rfl rfl rfl (xaddn rfl rfl (by omega)) ?_
   refine LP rfl rfl rfl (xmv rfl) ?_
   refine LZ ?_
   exact F_roundv (k + 1) ⟨hl1, by omega, or_step ht hx1 (by simpa using c2)⟩ (by (try dsimp only); omega) (lk_loop 9 rfl rfl (hvc rfl hvn))
 · -- c1 no
  replace c1 := of_decide_eq_false c1
  refine W_exit ?_
  refine F_exit_then ?_
  refine F_exit_then ?_
  refine F_exit_here ?_
  refine F_seq ?_
  refine W_seq ?_
  refine W_reg (.pure 0 (.pure 1 .nil)) rfl ?_
  refine LP rfl rfl rfl (xmv rfl) ?_
  refine LP rfl rfl rfl (xas rfl) ?_
  refine LZ ?_
  refine F_seq ?_
  refine W_ret ?_
  exact F_end1 rfl rfl ⟨_, rfl, by rw [or_none ht (by omega)], hl1⟩
theorem shcmp {a b : Key} {w : World} :
    Fn Try.prog 132 #[(.agg (KeyE.f a).toArray), (.agg (KeyE.f b).toArray)] w fun v w' => v = .int .i64 (cmpK a b) ∧ Le w w' := by
 refine Fn.enter 17 [(0, _), (1, _)] Try.func132 rfl rfl rfl rfl ?_
 refine W_seq ?_
 refine W_reg (.one 0 (.one 1 (.pure 2 .nil))) rfl ?_
 refine LT rfl rfl rfl (xbox rfl) ?_
 rintro _ w1 ⟨b1, rfl, hl1, hb1, hb1z⟩
 refine ⟨trivial, ?_⟩
 refine LT rfl rfl rfl (xbox rfl) ?_
 rintro _ w2 ⟨b2, rfl, hl2, hb2, hb2z⟩
 refine ⟨trivial, ?_⟩
 refine LP rfl rfl rfl (xas rfl) ?_
 refine LZ ?_
 refine F_seq ?_
 refine W_seq ?_
 refine W_draw (.pure 0 (.still 1 (.pure 2 (.still 3 (.pure 5 (.still 6 (.pure 7 (.still 8 (.one 4 (.one 9 (.one 10 (.one 11 (.pure 12 .nil))))))))))))) (Le w2) hfol (by kernel_rfl) (pkt pkB) (Le.drew _) ?_
 refine LP rfl rfl rfl (xfa fa40_0 rfl) ?_
 refine LS rfl rfl rfl (fun w' hw' => (xld sc21 rfl (cl_bk (Le.bk (hl2.trans hw') hb1) rfl))) ?_
 refine LP rfl rfl rfl (xfa fa40_0 rfl) ?_
 refine LS rfl rfl rfl (fun w' hw' => (xld sc21 rfl (cl_bk (Le.bk hw' hb2) rfl))) ?_
 refine LP rfl rfl rfl (xfa fa40_1 rfl) ?_
 refine LS rfl rfl rfl (fun w' hw' => (xld sc2 rfl (cl_bk (Le.bk (hl2.trans hw') hb1) rfl))) ?_
 refine LP rfl rfl rfl (xfa fa40_1 rfl) ?_
 refine LS rfl rfl rfl (fun w' hw' => (xld sc2 rfl (cl_bk (Le.bk hw' hb2) rfl))) ?_
 refine LF rfl rfl rfl has148 rfl (cmpi32) ?_
 rintro _ w3 ⟨rfl, hl3⟩
 refine ⟨((Le.drew w2).trans hl3), ?_⟩
 refine LF rfl rfl rfl has149 rfl (cmpi64) ?_
 rintro _ w4 ⟨rfl, hl4⟩
 refine ⟨((Le.drew w2).trans (hl3.trans hl4)), ?_⟩
 refine LT rfl rfl rfl (xbs rfl (bs223_2 (cmpI a.1 b.1) (cmpI a.2 b.2))) ?_
 rintro _ w5 ⟨b3, rfl, hl5, hb3, hb3z⟩
 refine ⟨((Le.drew w2).trans (hl3.trans (hl4.trans hl5))), ?_⟩
 have hr1 : Ow w5 w4 3 IntE _ [(cmpI a.1 b.1), (cmpI a.2 b.2)] := Ow.of_bk hb3 rfl hb3z (Nat.le_of_ble_eq_true rfl)
 refine LF rfl rfl rfl has147 rfl (or_int hr1.rd) ?_
 rintro _ w6 ⟨rfl, hl6⟩
 refine ⟨((Le.drew w2).trans (hl3.trans (hl4.trans (hl5.trans hl6)))), ?_⟩
 refine LP rfl rfl rfl (xas rfl) ?_
 refine LZ ?_
 refine F_seq ?_
 refine W_ret ?_
 exact F_end1 rfl rfl ⟨_, rfl, by rw [orI_cmp], (hl1.trans (hl2.trans ((Le.drew w2).trans (hl3.trans (hl4.trans (hl5.trans hl6))))))⟩
end Go.Proofs.Ythmhbonhagjnnaa
