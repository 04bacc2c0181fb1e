/- Procedures, decoded; whether a transaction may run. -/
import Derived.Test.YthmhbonhagjnnaaProg
import Derived.Test.YthmhbonhagjnnaaB4
import Derived.Test.YthmhbonhagjnnaaMq
import Derived.KernelRfl
namespace Go.Proofs.Ythmhbonhagjnnaa
open Go.RowKit
set_option linter.unusedVariables false
set_option linter.unusedSimpArgs false
theorem zr136 : Zr Try.prog 136 [.slice none 0 0] := Zr.of (z := (.slice none 0 0)) (fun _ => by kernel_rfl) rfl
theorem zr28 : Zr Try.prog 28 [.int .i64 0] := Zr.of (z := (.int .i64 0)) (fun _ => by kernel_rfl) rfl
theorem sc136 : Sc Try.prog 136 := fun _ => by kernel_rfl
theorem has118 : Has Try.prog 118 Try.f118 := ⟨Try.func118, by kernel_rfl, rfl⟩
theorem has116 : Has Try.prog 116 Try.f116 := ⟨Try.func116, by kernel_rfl, rfl⟩
theorem ko2 : KeyOk Try.prog 2 (fun x : Int => .int .i64 x) := keyOk_int un2
theorem zm4 : ∀ w, (zeroValue 4).run Try.prog w = .ok (.bool false) w := fun _ => by kernel_rfl
theorem un189 : Try.prog.underlying 189 = some (.map 2 4) := by kernel_rfl
theorem has119 : Has Try.prog 119 Try.f119 := ⟨Try.func119, by kernel_rfl, rfl⟩
theorem has95 : Has Try.prog 95 Try.f95 := ⟨Try.func95, by kernel_rfl, rfl⟩
theorem has83 : Has Try.prog 83 Try.f83 := ⟨Try.func83, by kernel_rfl, rfl⟩
theorem c_decode {vb : Value} {b : List Int} {w : World} (hb : RdE w.heap ByteE vb b) (hB : ∀ x ∈ b, 0 ≤ x ∧ x ≤ 255) (hn : b.length ≤ 4294967296) :
    Fn Try.prog 83 #[vb] w fun v w' => ∃ vl, v = .tuple #[vl, .int .i64 (decodeR b).2] ∧ Le w w' ∧ Ow w' w 145 InstrE vl (decodeR b).1 := by
 refine FnD.enter 44 [(0, _)] Try.func83 rfl rfl rfl rfl ?_
 have hzb := hb.sh.le
 have hzw := walkR_len b
 refine W_seq ?_
 refine W_reg (.one 0 (.one 1 .nil)) rfl ?_
 refine LT rfl rfl rfl (xal zr136) ?_
 rintro _ w1 ⟨b1, rfl, hl1, hb1, hb1z⟩
 refine ⟨trivial, ?_⟩
 refine LT rfl rfl rfl (xal zr28) ?_
 rintro _ w2 ⟨b2, rfl, hl2, hb2, hb2z⟩
 refine ⟨trivial, ?_⟩
 refine LZ ?_
 refine F_seq ?_
 refine W_seq ?_
 refine W_seq ?_
 refine W_reg (.pure 0 (.pure 1 (.pure 2 .nil))) rfl ?_
 refine LP rfl rfl rfl (xmv rfl) ?_
 refine LP rfl rfl rfl (xlen un22 hb.sh rfl) ?_
 refine LP rfl rfl rfl (xgtr rfl rfl) ?_
 refine LZ ?_
 refine F_seq ?_
 refine W_cond rfl (fun c1 => ?_) (fun c1 => ?_)
 · -- c1 yes
  replace c1 := of_decide_eq_true c1
  refine W_seq ?_
  refine W_reg (.one 0 (.one 1 .nil)) rfl ?_
  refine LU rfl rfl (xsb sz136 (Le.bk hl2 hb1) rfl rfl Sh.nil.cells rfl rfl (al_cons rfl al_nil)) ?_
  rintro w3 ⟨hq1, hb3⟩
  dsimp only [put] at hb3
  have hk1 := hq1.bk (ni_new hb2z (Nat.lt_of_lt_of_le (bk_lt hb1) (Nat.le_refl _)) ni_nil) hb2
  refine ⟨trivial, ?_⟩
  refine LU rfl rfl (xsb sz28 hk1 rfl rfl (int_cells _ _) rfl rfl (al_cons rfl al_nil)) ?_
  rintro w4 ⟨hq2, hb4⟩
  dsimp only [put] at hb4
  have hk2 := hq2.bk (ni_old (Nat.lt_of_lt_of_le (bk_lt hb1) (Nat.le_refl _)) hb2z ni_nil) hb3
  refine ⟨trivial, ?_⟩
  refine LZ ?_
  refine F_seq ?_
  refine W_ret ?_
  refine F_ret_then ?_
  have le1 : Le w w3 := (hq1.le (hl1.trans hl2) (inc (Nat.le_refl _) hb1z inn))
  have le2 : Le w w4 := (hq2.le le1 (inc hl1.size hb2z inn))
  have e := dec_long (b := b) (by omega)
  exact F_defR (rs := [.cell 2 136, .cell 3 28]) rfl (.cell rfl (run_ld sc136 (cl_bk hk2 rfl)) (.cell rfl (run_ld sc28 (cl_bk hb4 rfl)) .nil)) rfl ⟨.slice none 0 0, (by rw [e]; try rfl), le2, by rw [e]; exact Ow.nil _ _ _ _⟩
 · -- c1 no
  replace c1 := of_decide_eq_false c1
  refine W_skip ?_
  refine F_seq ?_
  refine W_seq ?_
  refine W_reg (.pure 0 (.one 1 .nil)) rfl ?_
  refine LP rfl rfl rfl (xmf rfl) ?_
  refine LD rfl rfl rfl trivial ?_
  refine LZ ?_
  refine F_seq ?_
  refine W_seq ?_
  refine W_reg (.pure 0 (.one 1 (.one 2 .nil))) rfl ?_
  refine LP rfl rfl rfl (xmv rfl) ?_
  refine LFP rfl rfl rfl has118 rfl (c_all (RdE.le (hl1.trans hl2) hb) hB (by first | omega | (simp only [List.length_append, List.length_take, List.length_drop, List.length_cons, List.length_nil]; omega))) ?_ ?_
  rotate_right
  ·
   rintro _ w5 ⟨hz1, rfl, hl3⟩
   refine F_p_then ?_
   have e := dec_bad (b := b) (by omega) hz1
   have hne : b1 ≠ b2 := by have h1 := (bk_lt hb1); have h2 := hb2z; omega
   refine F_def (rs := [.cell 2 136, .cell 3 28]) (.inr ⟨_, rfl, rfl⟩) has116 rfl (dec1p (e := (walkR b).2) hne (Le.bk (hl2.trans hl3) hb1) (Le.bk hl3 hb2)) ?_
   rintro wz ⟨hxz, hz1, hz2⟩
   exact ⟨[_, _], (.cell rfl (run_ld sc136 (cl_bk hz1 rfl)) (.cell rfl (run_ld sc28 (cl_bk hz2 rfl)) .nil)), .slice none 0 0, (by rw [e]; rfl), (hxz.le (hl1.trans (hl2.trans hl3)) (inc (Nat.le_refl _) hb1z (inc hl1.size hb2z inn))), by rw [e]; exact Ow.nil _ _ _ _⟩
  rintro v1 w5 ⟨hz1, hl3, ho1⟩
  refine ⟨trivial, ?_⟩
  refine LU rfl rfl (xsb sz136 (Le.bk (hl2.trans hl3) hb1) rfl rfl ho1.rd.sh.cells rfl rfl (al_cons ho1.rd.sh.one al_nil)) ?_
  rintro w6 ⟨hq3, hb5⟩
  dsimp only [put] at hb5
  have hk3 := hq3.bk (ni_new hb2z (Nat.lt_of_lt_of_le (bk_lt hb1) (Nat.le_refl _)) ni_nil) (Le.bk hl3 hb2)
  have hk4 := hq3.ow (Off.cons (Ow.ne_new ho1 (Nat.lt_of_lt_of_le (bk_lt hb1) hl2.size)) Off.nil) ho1
  refine ⟨trivial, ?_⟩
  refine LZ ?_
  refine F_seq ?_
  refine W_seq ?_
  refine W_reg (.one 0 (.pure 1 .nil)) rfl ?_
  refine LT rfl rfl rfl (xmk (KE := (fun x : Int => .int .i64 x)) (VE := Value.bool)) ?_
  rintro _ w7 ⟨b3, rfl, hl4, hm1, hm1z⟩
  refine ⟨trivial, ?_⟩
  refine LP rfl rfl rfl (xas rfl) ?_
  refine LZ ?_
  refine F_seq ?_
  refine W_seq ?_
  refine W_seq ?_
  refine W_reg (.one 0 (.pure 1 (.pure 2 .nil))) rfl ?_
  refine LX rfl rfl rfl (xld sc136 rfl (cl_bk (Le.bk hl4 hb5) rfl)) trivial ?_
  refine LP rfl rfl rfl (xlen un136 hk4.rd.sh rfl) ?_
  refine LP rfl rfl rfl (xmv rfl) ?_
  refine LZ ?_
  refine F_seq ?_
  refine W_block ?_
  have le3 : Le w w6 := (hq3.le (hl1.trans (hl2.trans hl3)) (inc (Nat.le_refl _) hb1z inn))
  refine W_loopv (ι := Nat) (fun k => [(18, .int .i64 (k : Int))]) (fun k w' => Le w w' ∧ k ≤ (walkR b).1.length ∧ w'.heap[b1]? = some (.cells #[v1] 136 (0, 0)) ∧ w'.heap[b2]? = some (.cells #[.int .i64 0] 28 (0, 0)) ∧ Ow w' w2 145 InstrE v1 (walkR b).1 ∧ Mp w' b3 (fun x : Int => .int .i64 x) Value.bool (begM ((walkR b).1.take k))) (fun k => (walkR b).1.length - k) 0 (hvc rfl hvn) ⟨(le3.trans hl4), Nat.zero_le _, (Le.bk hl4 hb5), (Le.bk hl4 hk3), (hk4.le hl4), hm1⟩ ?_
  rintro k w8 ⟨hl5, hk, hb1', hb2', hor, hmp⟩
  refine W_seq ?_
  refine W_reg (.pure 0 .nil) rfl ?_
  refine LP rfl rfl rfl (xlss rfl rfl) ?_
  refine LZ ?_
  refine F_seq ?_
  refine W_seq ?_
  refine W_cond rfl (fun c2 => ?_) (fun c2 => ?_)
  · -- c2 yes
   replace c2 := of_decide_eq_true c2
   have hz : (walkR b).2 = 0 := hz1
   refine W_skip ?_
   refine F_seq ?_
   refine W_seq ?_
   refine W_block ?_
   refine W_seq ?_
   refine W_reg (.pure 0 (.one 1 (.one 2 (.one 3 .nil)))) rfl ?_
   obtain ⟨x1, hx1⟩ : ∃ x, ((walkR b).1)[k]? = some x := ⟨_, List.getElem?_eq_getElem (by omega)⟩
   refine LP rfl rfl rfl (xix k un136 sz145 hor.rd.sh rfl rfl (by omega) (by omega)) ?_
   refine LX rfl rfl rfl (xle ag145 hor.rd hx1 rfl) trivial ?_
   refine LT rfl rfl rfl (xal zr145) ?_
   rintro _ w9 ⟨b4, rfl, hl6, hb6, hb6z⟩
   refine ⟨trivial, ?_⟩
   refine LU rfl rfl (xsb sz145 hb6 rfl rfl (agg_cells [.int .i64 x1.1, .int .i64 x1.2.1, .int .i64 x1.2.2.1, .int .i64 x1.2.2.2.1, .int .i64 x1.2.2.2.2]) rfl rfl (al_cons rfl (al_cons rfl (al_cons rfl (al_cons rfl (al_cons rfl al_nil)))))) ?_
   rintro w10 ⟨hq4, hb7⟩
   dsimp only [put] at hb7
   refine ⟨trivial, ?_⟩
   refine LZ ?_
   refine F_seq ?_
   refine W_reg (.pure 0 (.pure 1 (.one 2 (.one 3 .nil)))) rfl ?_
   refine LP rfl rfl rfl (xmv rfl) ?_
   refine LP rfl rfl rfl (xfa fa145_0 rfl) ?_
   refine LX rfl rfl rfl (xld sc3 rfl (cl_bk hb7 rfl)) trivial ?_
   have le4 : Le w8 w10 := (hq4.le hl6 (inc (Nat.le_refl _) hb6z inn))
   refine LU rfl rfl (xmu (k := x1.1) (v := true) un189 ko2 (Le.mp le4 hmp) rfl rfl rfl) ?_
   rintro w11 ⟨hq5, hm2⟩
   have hk5 := hq5.bk (ni_old (Nat.lt_of_lt_of_le (bk_lt hb1) (Nat.le_trans hl2.size (Nat.le_trans hl3.size hq3.size))) hm1z ni_nil) (Le.bk le4 hb1')
   have hk6 := hq5.ow (Off.cons (Ow.ne_old ho1 hm1z hq3.size) Off.nil) (hor.le le4)
   have hk7 := hq5.bk (ni_old (Nat.lt_of_lt_of_le (bk_lt hb2) (Nat.le_trans hl3.size hq3.size)) hm1z ni_nil) (Le.bk le4 hb2')
   have hk8 := hq5.bk (ni_new hb6z (Nat.lt_of_lt_of_le (Mp.lt hmp) (Nat.le_refl _)) ni_nil) hb7
   refine ⟨trivial, ?_⟩
   refine LZ ?_
   refine F_block ?_
   refine F_seq ?_
   refine W_reg (.pure 0 (.pure 1 .nil)) rfl ?_
   refine LP rfl rfl rfl (xaddn rfl rfl (by omega)) ?_
   refine LP rfl rfl rfl (xmv rfl) ?_
   refine LZ ?_
   have le5 : Le w w10 := (hq4.le (hl5.trans hl6) (inc hl5.size hb6z inn))
   have le6 : Le w w11 := (hq5.le le5 (inc (Nat.le_trans hl1.size (Nat.le_trans hl2.size (Nat.le_trans hl3.size hq3.size))) hm1z inn))
   exact F_roundv (k + 1) ⟨le6, by omega, hk5, hk7, hk6, (by rw [begM_step hx1]; exact hm2)⟩ (by (try dsimp only); omega) (lk_loop 9 rfl rfl (hvc rfl hvn))
  · -- c2 no
   replace c2 := of_decide_eq_false c2
   have hz : (walkR b).2 = 0 := hz1
   refine W_exit ?_
   refine F_exit_then ?_
   refine F_exit_then ?_
   refine F_exit_here ?_
   refine F_seq ?_
   refine W_seq ?_
   refine W_seq ?_
   refine W_reg (.one 0 (.pure 1 (.pure 2 .nil))) rfl ?_
   refine LX rfl rfl rfl (xld sc136 rfl (cl_bk hb1' rfl)) trivial ?_
   refine LP rfl rfl rfl (xlen un136 hor.rd.sh rfl) ?_
   refine LP rfl rfl rfl (xmv rfl) ?_
   refine LZ ?_
   refine F_seq ?_
   refine W_block ?_
   have hkl : (walkR b).1.length ≤ k := by omega
   refine W_loopv (ι := Nat) (fun m => [(28, .int .i64 (m : Int))]) (fun m w' => Le w w' ∧ m ≤ (walkR b).1.length ∧ w'.heap[b1]? = some (.cells #[v1] 136 (0, 0)) ∧ w'.heap[b2]? = some (.cells #[.int .i64 0] 28 (0, 0)) ∧ Ow w' w2 145 InstrE v1 (walkR b).1 ∧ Mp w' b3 (fun x : Int => .int .i64 x) Value.bool (begM ((walkR b).1.take k)) ∧ ∀ x ∈ (walkR b).1.take m, (jumpR x.2.1 && !beginsB (walkR b).1 x.2.2.2.2) = false) (fun m => (walkR b).1.length - m) 0 (hvc rfl hvn) ⟨hl5, Nat.zero_le _, hb1', hb2', hor, hmp, by simp⟩ ?_
   rintro m w12 ⟨hl7, hm, hb1', hb2', hor, hmp', hnt⟩
   refine W_seq ?_
   refine W_reg (.pure 0 .nil) rfl ?_
   refine LP rfl rfl rfl (xlss rfl rfl) ?_
   refine LZ ?_
   refine F_seq ?_
   refine W_seq ?_
   refine W_cond rfl (fun c3 => ?_) (fun c3 => ?_)
   · -- c3 yes
    replace c3 := of_decide_eq_true c3
    refine W_skip ?_
    refine F_seq ?_
    refine W_seq ?_
    refine W_block ?_
    refine W_seq ?_
    refine W_reg (.pure 0 (.one 1 (.one 2 (.one 3 .nil)))) rfl ?_
    obtain ⟨x2, hx2⟩ : ∃ x, ((walkR b).1)[m]? = some x := ⟨_, List.getElem?_eq_getElem (by omega)⟩
    refine LP rfl rfl rfl (xix m un136 sz145 hor.rd.sh rfl rfl (by omega) (by omega)) ?_
    refine LX rfl rfl rfl (xle ag145 hor.rd hx2 rfl) trivial ?_
    refine LT rfl rfl rfl (xal zr145) ?_
    rintro _ w13 ⟨b5, rfl, hl8, hb8, hb8z⟩
    refine ⟨trivial, ?_⟩
    refine LU rfl rfl (xsb sz145 hb8 rfl rfl (agg_cells [.int .i64 x2.1, .int .i64 x2.2.1, .int .i64 x2.2.2.1, .int .i64 x2.2.2.2.1, .int .i64 x2.2.2.2.2]) rfl rfl (al_cons rfl (al_cons rfl (al_cons rfl (al_cons rfl (al_cons rfl al_nil)))))) ?_
    rintro w14 ⟨hq6, hb9⟩
    dsimp only [put] at hb9
    refine ⟨trivial, ?_⟩
    refine LZ ?_
    refine F_seq ?_
    refine W_seq ?_
    refine W_reg (.one 0 (.one 1 (.pure 2 (.pure 3 (.pure 4 (.one 5 (.one 6 (.pure 7 (.pure 8 .nil))))))))) rfl ?_
    refine LX rfl rfl rfl (xlb5 ag145 hb9 rfl rfl rfl rfl rfl rfl) trivial ?_
    refine LF rfl rfl rfl has119 rfl (c_jumps (x := x2)) ?_
    rintro _ w15 ⟨rfl, hl9⟩
    refine ⟨trivial, ?_⟩
    refine LP rfl rfl rfl (xmv rfl) ?_
    refine L_split (t := 34) rfl (fun c4 => ?_) (fun c4 => ?_)
    · -- c4 yes
     refine LP rfl rfl rfl (xmv rfl) ?_
     refine LP rfl rfl rfl (xfa fa145_4 rfl) ?_
     refine LX rfl rfl rfl (xld sc2 rfl (cl_bk (Le.bk hl9 hb9) rfl)) trivial ?_
     have le7 : Le w12 w14 := (hq6.le hl8 (inc (Nat.le_refl _) hb8z inn))
     refine LX rfl rfl rfl (xlk (k := x2.2.2.2.2) un189 ko2 zm4 (Le.mp (le7.trans hl9) hmp') rfl rfl) trivial ?_
     refine L_is 38 (v := .bool (beginsB (walkR b).1 x2.2.2.2.2)) rfl (begM_look hkl _) ?_
     refine LP rfl rfl rfl (xnot rfl) ?_
     refine LP rfl rfl rfl (xpk1 rfl rfl) ?_
     refine LZ ?_
     refine F_seq ?_
     refine W_cond rfl (fun c5 => ?_) (fun c5 => ?_)
     · -- c5 yes
      try simp only [Bool.not_eq_true', Bool.not_eq_false', decide_eq_true_eq, decide_eq_false_iff_not] at c5
      refine W_reg (.one 0 .nil) rfl ?_
      refine LFP rfl rfl rfl has120 rfl (c_must (e := (131 : Int))) ?_ ?_
      rotate_right
      ·
       rintro _ w16 ⟨hz2, rfl, hl10⟩
       refine F_p_block ?_
       refine F_p_then ?_
       refine F_p_then ?_
       refine F_p_block ?_
       refine F_p_then ?_
       have e := dec_target (b := b) (by omega) hz hx2 (by simpa using c4) (by simpa using c5)
       have hne : b1 ≠ b2 := by have h1 := (bk_lt hb1); have h2 := hb2z; omega
       have le8 : Le w w14 := (hq6.le (hl7.trans hl8) (inc hl7.size hb8z inn))
       refine F_def (rs := [.cell 2 136, .cell 3 28]) (.inr ⟨_, rfl, rfl⟩) has116 rfl (dec1p (e := 131) hne (Le.bk (le7.trans (hl9.trans hl10)) hb1') (Le.bk (le7.trans (hl9.trans hl10)) hb2')) ?_
       rintro wz ⟨hxz, hz1, hz2⟩
       exact ⟨[_, _], (.cell rfl (run_ld sc136 (cl_bk hz1 rfl)) (.cell rfl (run_ld sc28 (cl_bk hz2 rfl)) .nil)), .slice none 0 0, (by rw [e]; rfl), (hxz.le (le8.trans (hl9.trans hl10)) (inc (Nat.le_refl _) hb1z (inc hl1.size hb2z inn))), by rw [e]; exact Ow.nil _ _ _ _⟩
      rintro _ w16 ⟨hz2, hl10⟩
      exact absurd hz2 (by decide)
     · -- c5 no
      try simp only [Bool.not_eq_true', Bool.not_eq_false', decide_eq_true_eq, decide_eq_false_iff_not] at c5
      refine W_skip ?_
      refine F_block ?_
      refine F_seq ?_
      refine W_reg (.pure 0 (.pure 1 .nil)) rfl ?_
      refine LP rfl rfl rfl (xaddn rfl rfl (by omega)) ?_
      refine LP rfl rfl rfl (xmv rfl) ?_
      refine LZ ?_
      have le9 : Le w w14 := (hq6.le (hl7.trans hl8) (inc hl7.size hb8z inn))
      exact F_roundv (m + 1) ⟨(le9.trans hl9), by omega, (Le.bk (le7.trans hl9) hb1'), (Le.bk (le7.trans hl9) hb2'), (hor.le (le7.trans hl9)), (Le.mp (le7.trans hl9) hmp'), lt_step hnt hx2 (by simp [c4, c5])⟩ (by (try dsimp only); omega) (lk_loop 17 rfl rfl (hvc rfl hvn))
    · -- c4 no
     refine LN rfl rfl rfl ?_
     refine LN rfl rfl rfl ?_
     refine LNo rfl rfl rfl trivial ?_
     refine LNo rfl rfl rfl trivial ?_
     refine LN rfl rfl rfl ?_
     refine LP rfl rfl rfl (xpk0 rfl rfl) ?_
     refine LZ ?_
     refine F_seq ?_
     refine W_else rfl ?_
     refine W_skip ?_
     refine F_block ?_
     refine F_seq ?_
     refine W_reg (.pure 0 (.pure 1 .nil)) rfl ?_
     refine LP rfl rfl rfl (xaddn rfl rfl (by omega)) ?_
     refine LP rfl rfl rfl (xmv rfl) ?_
     refine LZ ?_
     have le10 : Le w12 w14 := (hq6.le hl8 (inc (Nat.le_refl _) hb8z inn))
     have le11 : Le w w14 := (hq6.le (hl7.trans hl8) (inc hl7.size hb8z inn))
     exact F_roundv (m + 1) ⟨(le11.trans hl9), by omega, (Le.bk (le10.trans hl9) hb1'), (Le.bk (le10.trans hl9) hb2'), (hor.le (le10.trans hl9)), (Le.mp (le10.trans hl9) hmp'), lt_step hnt hx2 (by rw [c4]; rfl)⟩ (by (try dsimp only); omega) (lk_loop 16 rfl rfl (hvc rfl hvn))
   · -- c3 no
    replace c3 := of_decide_eq_false c3
    refine W_exit ?_
    refine F_exit_then ?_
    refine F_exit_then ?_
    refine F_exit_here ?_
    refine F_seq ?_
    refine W_seq ?_
    refine W_reg (.one 0 (.one 1 (.one 2 .nil))) rfl ?_
    refine LX rfl rfl rfl (xld sc136 rfl (cl_bk hb1' rfl)) trivial ?_
    refine LU rfl rfl (xsb sz136 hb1' rfl rfl hor.rd.sh.cells rfl rfl (al_cons hor.rd.sh.one al_nil)) ?_
    rintro w17 ⟨hq7, hb10⟩
    dsimp only [put] at hb10
    have hk9 := hq7.ow (Off.cons (Ow.ne_new ho1 (Nat.lt_of_lt_of_le (bk_lt hb1) hl2.size)) Off.nil) hor
    have hk10 := hq7.bk (ni_new hb2z (Nat.lt_of_lt_of_le (bk_lt hb1) (Nat.le_refl _)) ni_nil) hb2'
    have hk11 := hq7.mp (ni_new hm1z (Nat.lt_of_lt_of_le (bk_lt hb1) (Nat.le_trans hl2.size (Nat.le_trans hl3.size hq3.size))) ni_nil) hmp'
    refine ⟨trivial, ?_⟩
    refine LU rfl rfl (xsb sz28 hk10 rfl rfl (int_cells _ _) rfl rfl (al_cons rfl al_nil)) ?_
    rintro w18 ⟨hq8, hb11⟩
    dsimp only [put] at hb11
    have hk12 := hq8.bk (ni_old (Nat.lt_of_lt_of_le (bk_lt hb1) (Nat.le_refl _)) hb2z ni_nil) hb10
    have hk13 := hq8.ow (Off.cons (Ow.ne_new ho1 (Nat.lt_of_lt_of_le (bk_lt hb2) (Nat.le_refl _))) Off.nil) hk9
    have hk14 := hq8.mp (ni_new hm1z (Nat.lt_of_lt_of_le (bk_lt hb2) (Nat.le_trans hl3.size hq3.size)) ni_nil) hk11
    refine ⟨trivial, ?_⟩
    refine LZ ?_
    refine F_seq ?_
    refine W_ret ?_
    have le12 : Le w w17 := (hq7.le hl7 (inc (Nat.le_refl _) hb1z inn))
    have le13 : Le w w18 := (hq8.le le12 (inc hl1.size hb2z inn))
    have e := dec_ok (b := b) (by omega) hz hnt (by omega)
    refine F_def (rs := [.cell 2 136, .cell 3 28]) (.inl ⟨rfl, rfl⟩) has116 rfl dec1r ?_
    rintro _ rfl
    exact ⟨[_, _], (.cell rfl (run_ld sc136 (cl_bk hk12 rfl)) (.cell rfl (run_ld sc28 (cl_bk hb11 rfl)) .nil)), _, (by rw [e]; rfl), le13, by rw [e]; exact (hk13).base ((hl1.trans hl2).size)⟩
theorem c_check {t : Txn} {vtc vta vtr vtw : Value} {w : World} (htc : RdE w.heap ByteE vtc t.code) (hta : RdE w.heap IntE vta t.args) (htr : RdE w.heap KeyE vtr t.reads) (htw : RdE w.heap KeyE vtw t.writes) (hB : ∀ x ∈ t.code, 0 ≤ x ∧ x ≤ 255) (hn : t.code.length ≤ 4294967296) :
    Fn Try.prog 36 #[(.agg #[.int .i64 t.se, .int .i64 t.rq, vtc, vta, vtr, vtw])] w fun v w' => v = .int .i64 (checkR t) ∧ Le w w' := by
 refine Fn.enter 94 [(0, _)] Try.func36 rfl rfl rfl rfl ?_
 have hzc := htc.sh.le
 have hza := hta.sh.le
 have hzr := htr.sh.le
 have hzw := htw.sh.le
 have hzd := decodeR_len t.code
 refine W_seq ?_
 refine W_reg (.one 0 (.pure 1 .nil)) rfl ?_
 refine LT rfl rfl rfl (xbox rfl) ?_
 rintro _ w1 ⟨b1, rfl, hl1, hb1, hb1z⟩
 refine ⟨trivial, ?_⟩
 refine LP rfl rfl rfl (xas rfl) ?_
 refine LZ ?_
 refine F_seq ?_
 refine W_seq ?_
 refine W_block ?_
 refine W_seq ?_
 refine W_reg (.pure 0 (.one 1 (.pure 2 (.pure 3 (.pure 4 (.one 5 (.pure 6 (.pure 7 (.pure 8 (.pure 9 (.one 10 (.pure 11 (.pure 12 (.pure 13 (.pure 14 (.one 15 (.pure 16 (.pure 17 (.pure 18 .nil))))))))))))))))))) rfl ?_
 refine LP rfl rfl rfl (xfa fa26_0 rfl) ?_
 refine LX rfl rfl rfl (xld sc2 rfl (cl_bk hb1 rfl)) trivial ?_
 refine LP rfl rfl rfl (xlss rfl rfl) ?_
 refine LP rfl rfl rfl (xmv rfl) ?_
 refine L_split (t := 12) rfl (fun c1 => ?_) (fun c1 => ?_)
 · -- c1 yes
  replace c1 := of_decide_eq_true c1
  refine LN rfl rfl rfl ?_
  refine LNo rfl rfl rfl trivial ?_
  refine LN rfl rfl rfl ?_
  refine LP rfl rfl rfl (xpk1 rfl rfl) ?_
  refine LP rfl rfl rfl (xmv rfl) ?_
  refine LN rfl rfl rfl ?_
  refine LNo rfl rfl rfl trivial ?_
  refine LN rfl rfl rfl ?_
  refine LP rfl rfl rfl (xpk1 rfl rfl) ?_
  refine LP rfl rfl rfl (xmv rfl) ?_
  refine LN rfl rfl rfl ?_
  refine LNo rfl rfl rfl trivial ?_
  refine LN rfl rfl rfl ?_
  refine LP rfl rfl rfl (xpk1 rfl rfl) ?_
  refine LP rfl rfl rfl (xas rfl) ?_
  refine LZ ?_
  refine F_seq ?_
  refine W_if rfl ?_
  refine W_seq ?_
  refine W_reg (.pure 0 .nil) rfl ?_
  refine LP rfl rfl rfl (xas rfl) ?_
  refine LZ ?_
  refine F_seq ?_
  refine W_ret ?_
  refine F_ret_block ?_
  refine F_ret_then ?_
  have e : checkR t = 1 := by first | (unfold checkR; rw [if_pos (by omega)]; done) | (unfold checkR; rw [if_neg (by omega), if_pos (by omega)]; done) | (unfold checkR; rw [if_neg (by omega), if_neg (by omega), if_pos (by simp [*])]; done)
  exact F_end1 rfl rfl ⟨_, rfl, (by rw [e]; try rfl), hl1⟩
 · -- c1 no
  replace c1 := of_decide_eq_false c1
  refine LP rfl rfl rfl (xfa fa26_0 rfl) ?_
  refine LX rfl rfl rfl (xld sc2 rfl (cl_bk hb1 rfl)) trivial ?_
  refine LP rfl rfl rfl (xgtr rfl rfl) ?_
  refine LP rfl rfl rfl (xpk0 rfl rfl) ?_
  refine LP rfl rfl rfl (xmv rfl) ?_
  refine L_split (t := 17) rfl (fun c3 => ?_) (fun c3 => ?_)
  · -- c3 yes
   replace c3 := of_decide_eq_true c3
   refine LN rfl rfl rfl ?_
   refine LNo rfl rfl rfl trivial ?_
   refine LN rfl rfl rfl ?_
   refine LP rfl rfl rfl (xpk1 rfl rfl) ?_
   refine LP rfl rfl rfl (xmv rfl) ?_
   refine LN rfl rfl rfl ?_
   refine LNo rfl rfl rfl trivial ?_
   refine LN rfl rfl rfl ?_
   refine LP rfl rfl rfl (xpk1 rfl rfl) ?_
   refine LP rfl rfl rfl (xas rfl) ?_
   refine LZ ?_
   refine F_seq ?_
   refine W_if rfl ?_
   refine W_seq ?_
   refine W_reg (.pure 0 .nil) rfl ?_
   refine LP rfl rfl rfl (xas rfl) ?_
   refine LZ ?_
   refine F_seq ?_
   refine W_ret ?_
   refine F_ret_block ?_
   refine F_ret_then ?_
   have e : checkR t = 1 := by first | (unfold checkR; rw [if_pos (by omega)]; done) | (unfold checkR; rw [if_neg (by omega), if_pos (by omega)]; done) | (unfold checkR; rw [if_neg (by omega), if_neg (by omega), if_pos (by simp [*])]; done)
   exact F_end1 rfl rfl ⟨_, rfl, (by rw [e]; try rfl), hl1⟩
  · -- c3 no
   replace c3 := of_decide_eq_false c3
   refine LP rfl rfl rfl (xfa fa26_1 rfl) ?_
   refine LX rfl rfl rfl (xld sc2 rfl (cl_bk hb1 rfl)) trivial ?_
   refine LP rfl rfl rfl (xlss rfl rfl) ?_
   refine LP rfl rfl rfl (xpk0 rfl rfl) ?_
   refine LP rfl rfl rfl (xmv rfl) ?_
   refine L_split (t := 22) rfl (fun c5 => ?_) (fun c5 => ?_)
   · -- c5 yes
    replace c5 := of_decide_eq_true c5
    refine LN rfl rfl rfl ?_
    refine LNo rfl rfl rfl trivial ?_
    refine LN rfl rfl rfl ?_
    refine LP rfl rfl rfl (xpk1 rfl rfl) ?_
    refine LP rfl rfl rfl (xas rfl) ?_
    refine LZ ?_
    refine F_seq ?_
    refine W_if rfl ?_
    refine W_seq ?_
    refine W_reg (.pure 0 .nil) rfl ?_
    refine LP rfl rfl rfl (xas rfl) ?_
    refine LZ ?_
    refine F_seq ?_
    refine W_ret ?_
    refine F_ret_block ?_
    refine F_ret_then ?_
    have e : checkR t = 1 := by first | (unfold checkR; rw [if_pos (by omega)]; done) | (unfold checkR; rw [if_neg (by omega), if_pos (by omega)]; done) | (unfold checkR; rw [if_neg (by omega), if_neg (by omega), if_pos (by simp [*])]; done)
    exact F_end1 rfl rfl ⟨_, rfl, (by rw [e]; try rfl), hl1⟩
   · -- c5 no
    replace c5 := of_decide_eq_false c5
    refine LP rfl rfl rfl (xfa fa26_1 rfl) ?_
    refine LX rfl rfl rfl (xld sc2 rfl (cl_bk hb1 rfl)) trivial ?_
    refine LP rfl rfl rfl (xgtr rfl rfl) ?_
    refine LP rfl rfl rfl (xpk0 rfl rfl) ?_
    refine LP rfl rfl rfl (xas rfl) ?_
    refine LZ ?_
    refine F_seq ?_
    refine W_cond rfl (fun c7 => ?_) (fun c7 => ?_)
    · -- c7 yes
     replace c7 := of_decide_eq_true c7
     refine W_seq ?_
     refine W_reg (.pure 0 .nil) rfl ?_
     refine LP rfl rfl rfl (xas rfl) ?_
     refine LZ ?_
     refine F_seq ?_
     refine W_ret ?_
     refine F_ret_block ?_
     refine F_ret_then ?_
     have e : checkR t = 1 := by first | (unfold checkR; rw [if_pos (by omega)]; done) | (unfold checkR; rw [if_neg (by omega), if_pos (by omega)]; done) | (unfold checkR; rw [if_neg (by omega), if_neg (by omega), if_pos (by simp [*])]; done)
     exact F_end1 rfl rfl ⟨_, rfl, (by rw [e]; try rfl), hl1⟩
    · -- c7 no
     replace c7 := of_decide_eq_false c7
     refine W_seq ?_
     refine W_reg (.pure 0 (.one 1 (.pure 2 (.pure 3 (.pure 4 (.pure 5 (.one 6 (.pure 7 (.pure 8 (.pure 9 (.pure 10 (.pure 11 (.one 12 (.pure 13 (.pure 14 (.pure 15 (.pure 16 .nil))))))))))))))))) rfl ?_
     refine LP rfl rfl rfl (xfa fa26_3 rfl) ?_
     refine LX rfl rfl rfl (xld sc23 rfl (cl_bk hb1 rfl)) trivial ?_
     refine LP rfl rfl rfl (xlen un23 hta.sh rfl) ?_
     refine LP rfl rfl rfl (xgtr rfl rfl) ?_
     refine LP rfl rfl rfl (xmv rfl) ?_
     refine L_split (t := 32) rfl (fun c8 => ?_) (fun c8 => ?_)
     · -- c8 yes
      replace c8 := of_decide_eq_true c8
      refine LN rfl rfl rfl ?_
      refine LNo rfl rfl rfl trivial ?_
      refine LN rfl rfl rfl ?_
      refine LN rfl rfl rfl ?_
      refine LP rfl rfl rfl (xpk1 rfl rfl) ?_
      refine LP rfl rfl rfl (xmv rfl) ?_
      refine LN rfl rfl rfl ?_
      refine LNo rfl rfl rfl trivial ?_
      refine LN rfl rfl rfl ?_
      refine LN rfl rfl rfl ?_
      refine LP rfl rfl rfl (xpk1 rfl rfl) ?_
      refine LP rfl rfl rfl (xas rfl) ?_
      refine LZ ?_
      refine F_seq ?_
      refine W_if rfl ?_
      refine W_seq ?_
      refine W_reg (.pure 0 .nil) rfl ?_
      refine LP rfl rfl rfl (xas rfl) ?_
      refine LZ ?_
      refine F_seq ?_
      refine W_ret ?_
      refine F_ret_block ?_
      refine F_ret_then ?_
      have e : checkR t = 3 := by first | (unfold checkR; rw [if_pos (by omega)]; done) | (unfold checkR; rw [if_neg (by omega), if_pos (by omega)]; done) | (unfold checkR; rw [if_neg (by omega), if_neg (by omega), if_pos (by simp [*])]; done)
      exact F_end1 rfl rfl ⟨_, rfl, (by rw [e]; try rfl), hl1⟩
     · -- c8 no
      replace c8 := of_decide_eq_false c8
      refine LP rfl rfl rfl (xfa fa26_4 rfl) ?_
      refine LX rfl rfl rfl (xld sc24 rfl (cl_bk hb1 rfl)) trivial ?_
      refine LP rfl rfl rfl (xlen un24 htr.sh rfl) ?_
      refine LP rfl rfl rfl (xgtr rfl rfl) ?_
      refine LP rfl rfl rfl (xpk0 rfl rfl) ?_
      refine LP rfl rfl rfl (xmv rfl) ?_
      refine L_split (t := 38) rfl (fun c10 => ?_) (fun c10 => ?_)
      · -- c10 yes
       replace c10 := of_decide_eq_true c10
       refine LN rfl rfl rfl ?_
       refine LNo rfl rfl rfl trivial ?_
       refine LN rfl rfl rfl ?_
       refine LN rfl rfl rfl ?_
       refine LP rfl rfl rfl (xpk1 rfl rfl) ?_
       refine LP rfl rfl rfl (xas rfl) ?_
       refine LZ ?_
       refine F_seq ?_
       refine W_if rfl ?_
       refine W_seq ?_
       refine W_reg (.pure 0 .nil) rfl ?_
       refine LP rfl rfl rfl (xas rfl) ?_
       refine LZ ?_
       refine F_seq ?_
       refine W_ret ?_
       refine F_ret_block ?_
       refine F_ret_then ?_
       have e : checkR t = 3 := by first | (unfold checkR; rw [if_pos (by omega)]; done) | (unfold checkR; rw [if_neg (by omega), if_pos (by omega)]; done) | (unfold checkR; rw [if_neg (by omega), if_neg (by omega), if_pos (by simp [*])]; done)
       exact F_end1 rfl rfl ⟨_, rfl, (by rw [e]; try rfl), hl1⟩
      · -- c10 no
       replace c10 := of_decide_eq_false c10
       refine LP rfl rfl rfl (xfa fa26_5 rfl) ?_
       refine LX rfl rfl rfl (xld sc24 rfl (cl_bk hb1 rfl)) trivial ?_
       refine LP rfl rfl rfl (xlen un24 htw.sh rfl) ?_
       refine LP rfl rfl rfl (xgtr rfl rfl) ?_
       refine LP rfl rfl rfl (xpk0 rfl rfl) ?_
       refine LP rfl rfl rfl (xas rfl) ?_
       refine LZ ?_
       refine F_seq ?_
       refine W_cond rfl (fun c12 => ?_) (fun c12 => ?_)
       · -- c12 yes
        replace c12 := of_decide_eq_true c12
        refine W_seq ?_
        refine W_reg (.pure 0 .nil) rfl ?_
        refine LP rfl rfl rfl (xas rfl) ?_
        refine LZ ?_
        refine F_seq ?_
        refine W_ret ?_
        refine F_ret_block ?_
        refine F_ret_then ?_
        have e : checkR t = 3 := by first | (unfold checkR; rw [if_pos (by omega)]; done) | (unfold checkR; rw [if_neg (by omega), if_pos (by omega)]; done) | (unfold checkR; rw [if_neg (by omega), if_neg (by omega), if_pos (by simp [*])]; done)
        exact F_end1 rfl rfl ⟨_, rfl, (by rw [e]; try rfl), hl1⟩
       · -- c12 no
        replace c12 := of_decide_eq_false c12
        refine W_seq ?_
        refine W_reg (.pure 0 (.one 1 (.one 2 (.pure 3 (.pure 4 (.pure 5 (.one 6 (.one 7 (.pure 8 (.pure 9 (.pure 10 .nil))))))))))) rfl ?_
        refine LP rfl rfl rfl (xfa fa26_4 rfl) ?_
        refine LX rfl rfl rfl (xld sc24 rfl (cl_bk hb1 rfl)) trivial ?_
        refine LF rfl rfl rfl has95 rfl (c_rises (RdE.le hl1 htr)) ?_
        rintro _ w2 ⟨rfl, hl2⟩
        refine ⟨trivial, ?_⟩
        refine LP rfl rfl rfl (xnot rfl) ?_
        refine LP rfl rfl rfl (xmv rfl) ?_
        refine L_split (t := 49) rfl (fun c13 => ?_) (fun c13 => ?_)
        · -- c13 yes
         try simp only [Bool.not_eq_true', Bool.not_eq_false', decide_eq_true_eq, decide_eq_false_iff_not] at c13
         refine LN rfl rfl rfl ?_
         refine LNo rfl rfl rfl trivial ?_
         refine LNo rfl rfl rfl trivial ?_
         refine LN rfl rfl rfl ?_
         refine LP rfl rfl rfl (xpk1 rfl rfl) ?_
         refine LP rfl rfl rfl (xas rfl) ?_
         refine LZ ?_
         refine F_seq ?_
         refine W_if rfl ?_
         refine W_seq ?_
         refine W_reg (.pure 0 .nil) rfl ?_
         refine LP rfl rfl rfl (xas rfl) ?_
         refine LZ ?_
         refine F_seq ?_
         refine W_ret ?_
         refine F_ret_block ?_
         refine F_ret_then ?_
         have e : checkR t = 1 := by first | (unfold checkR; rw [if_pos (by omega)]; done) | (unfold checkR; rw [if_neg (by omega), if_pos (by omega)]; done) | (unfold checkR; rw [if_neg (by omega), if_neg (by omega), if_pos (by simp [*])]; done)
         exact F_end1 rfl rfl ⟨_, rfl, (by rw [e]; try rfl), (hl1.trans hl2)⟩
        · -- c13 no
         try simp only [Bool.not_eq_true', Bool.not_eq_false', decide_eq_true_eq, decide_eq_false_iff_not] at c13
         refine LP rfl rfl rfl (xfa fa26_5 rfl) ?_
         refine LX rfl rfl rfl (xld sc24 rfl (cl_bk (Le.bk hl2 hb1) rfl)) trivial ?_
         refine LF rfl rfl rfl has95 rfl (c_rises (RdE.le (hl1.trans hl2) htw)) ?_
         rintro _ w3 ⟨rfl, hl3⟩
         refine ⟨trivial, ?_⟩
         refine LP rfl rfl rfl (xnot rfl) ?_
         refine LP rfl rfl rfl (xpk0 rfl rfl) ?_
         refine LP rfl rfl rfl (xas rfl) ?_
         refine LZ ?_
         refine F_seq ?_
         refine W_cond rfl (fun c15 => ?_) (fun c15 => ?_)
         · -- c15 yes
          try simp only [Bool.not_eq_true', Bool.not_eq_false', decide_eq_true_eq, decide_eq_false_iff_not] at c15
          refine W_seq ?_
          refine W_reg (.pure 0 .nil) rfl ?_
          refine LP rfl rfl rfl (xas rfl) ?_
          refine LZ ?_
          refine F_seq ?_
          refine W_ret ?_
          refine F_ret_block ?_
          refine F_ret_then ?_
          have e : checkR t = 1 := by first | (unfold checkR; rw [if_pos (by omega)]; done) | (unfold checkR; rw [if_neg (by omega), if_pos (by omega)]; done) | (unfold checkR; rw [if_neg (by omega), if_neg (by omega), if_pos (by simp [*])]; done)
          exact F_end1 rfl rfl ⟨_, rfl, (by rw [e]; try rfl), (hl1.trans (hl2.trans hl3))⟩
         · -- c15 no
          try simp only [Bool.not_eq_true', Bool.not_eq_false', decide_eq_true_eq, decide_eq_false_iff_not] at c15
          have h3 : ¬ (risesB t.reads = false ∨ risesB t.writes = false) := by simp [*]
          refine W_skip ?_
          refine F_block ?_
          refine F_seq ?_
          refine W_seq ?_
          refine W_reg (.pure 0 (.one 1 (.one 2 (.pure 3 (.pure 4 (.pure 5 (.pure 6 (.pure 7 .nil)))))))) rfl ?_
          refine LP rfl rfl rfl (xfa fa26_2 rfl) ?_
          refine LX rfl rfl rfl (xld sc22 rfl (cl_bk (Le.bk (hl2.trans hl3) hb1) rfl)) trivial ?_
          refine LF rfl rfl rfl has83 rfl (c_decode (RdE.le (hl1.trans (hl2.trans hl3)) htc) hB (by first | omega | (simp only [List.length_append, List.length_take, List.length_drop, List.length_cons, List.length_nil]; omega))) ?_
          rintro _ w4 ⟨vx1, rfl, hl4, ho1⟩
          refine ⟨trivial, ?_⟩
          refine LP rfl rfl rfl (xmv rfl) ?_
          refine LP rfl rfl rfl (xext rfl rfl) ?_
          refine LP rfl rfl rfl (xext rfl rfl) ?_
          refine LP rfl rfl rfl (xas rfl) ?_
          refine LP rfl rfl rfl (xas rfl) ?_
          refine LZ ?_
          refine F_seq ?_
          refine W_seq ?_
          refine W_seq ?_
          refine W_reg (.pure 0 (.pure 1 .nil)) rfl ?_
          refine LP rfl rfl rfl (xmv rfl) ?_
          refine LP rfl rfl rfl (xneq rfl rfl) ?_
          refine LZ ?_
          refine F_seq ?_
          refine W_cond rfl (fun c16 => ?_) (fun c16 => ?_)
          · -- c16 yes
           try simp only [Bool.not_eq_true', Bool.not_eq_false', decide_eq_true_eq, decide_eq_false_iff_not] at c16
           refine W_seq ?_
           refine W_reg (.pure 0 (.pure 1 .nil)) rfl ?_
           refine LP rfl rfl rfl (xmv rfl) ?_
           refine LP rfl rfl rfl (xas rfl) ?_
           refine LZ ?_
           refine F_seq ?_
           refine W_ret ?_
           refine F_ret_then ?_
           have e : checkR t = (decodeR t.code).2 := by unfold checkR; rw [if_neg (by omega), if_neg (by omega), if_neg h3, if_pos (by simpa using c16)]
           exact F_end1 rfl rfl ⟨_, rfl, (by rw [e]; try rfl), (hl1.trans (hl2.trans (hl3.trans hl4)))⟩
          · -- c16 no
           try simp only [Bool.not_eq_true', Bool.not_eq_false', decide_eq_true_eq, decide_eq_false_iff_not] at c16
           have h4 : (decodeR t.code).2 = 0 := by simpa using c16
           refine W_skip ?_
           refine F_seq ?_
           refine W_seq ?_
           refine W_seq ?_
           refine W_reg (.pure 0 (.pure 1 (.pure 2 .nil))) rfl ?_
           refine LP rfl rfl rfl (xmv rfl) ?_
           refine LP rfl rfl rfl (xlen un136 ho1.rd.sh rfl) ?_
           refine LP rfl rfl rfl (xmv rfl) ?_
           refine LZ ?_
           refine F_seq ?_
           refine W_block ?_
           refine W_loopv (ι := Nat) (fun k => [(66, .int .i64 (k : Int))]) (fun k w' => Le w4 w' ∧ k ≤ (decodeR t.code).1.length ∧ ∀ x ∈ (decodeR t.code).1.take k, idxBad t x = false) (fun k => (decodeR t.code).1.length - k) 0 (hvc rfl hvn) ⟨Le.refl _, Nat.zero_le _, by simp⟩ ?_
           rintro k w5 ⟨hl5, hk, hnt⟩
           refine W_seq ?_
           refine W_reg (.pure 0 .nil) rfl ?_
           refine LP rfl rfl rfl (xlss rfl rfl) ?_
           refine LZ ?_
           refine F_seq ?_
           refine W_seq ?_
           refine W_cond rfl (fun c17 => ?_) (fun c17 => ?_)
           · -- c17 yes
            replace c17 := of_decide_eq_true c17
            refine W_skip ?_
            refine F_seq ?_
            refine W_seq ?_
            refine W_block ?_
            refine W_seq ?_
            refine W_reg (.pure 0 (.one 1 (.one 2 (.one 3 .nil)))) rfl ?_
            obtain ⟨x1, hx1⟩ : ∃ x, ((decodeR t.code).1)[k]? = some x := ⟨_, List.getElem?_eq_getElem (by omega)⟩
            refine LP rfl rfl rfl (xix k un136 sz145 ho1.rd.sh rfl rfl (by omega) (by omega)) ?_
            refine LX rfl rfl rfl (xle ag145 (RdE.le hl5 ho1.rd) hx1 rfl) trivial ?_
            refine LT rfl rfl rfl (xal zr145) ?_
            rintro _ w6 ⟨b2, rfl, hl6, hb2, hb2z⟩
            refine ⟨trivial, ?_⟩
            refine LU rfl rfl (xsb sz145 hb2 rfl rfl (agg_cells [.int .i64 x1.1, .int .i64 x1.2.1, .int .i64 x1.2.2.1, .int .i64 x1.2.2.2.1, .int .i64 x1.2.2.2.2]) rfl rfl (al_cons rfl (al_cons rfl (al_cons rfl (al_cons rfl (al_cons rfl al_nil)))))) ?_
            rintro w7 ⟨hq1, hb3⟩
            dsimp only [put] at hb3
            refine ⟨trivial, ?_⟩
            refine LZ ?_
            refine F_seq ?_
            refine W_seq ?_
            refine W_reg (.pure 0 .nil) rfl ?_
            refine LP rfl rfl rfl (xas rfl) ?_
            refine LZ ?_
            refine F_seq ?_
            refine W_seq ?_
            refine W_seq ?_
            refine W_reg (.pure 0 (.one 1 .nil)) rfl ?_
            refine LP rfl rfl rfl (xfa fa145_1 rfl) ?_
            refine LX rfl rfl rfl (xld sc3 rfl (cl_bk hb3 rfl)) trivial ?_
            refine LZ ?_
            refine F_seq ?_
            refine W_block ?_
            refine W_seq ?_
            refine W_seq ?_
            refine W_reg (.pure 0 (.pure 1 .nil)) rfl ?_
            refine LP rfl rfl rfl (xeql rfl rfl) ?_
            refine LP rfl rfl rfl (xas rfl) ?_
            refine LZ ?_
            refine F_seq ?_
            refine W_split (t := 72) rfl (fun c18 => ?_) (fun c18 => ?_)
            · -- c18 yes
             replace c18 := of_decide_eq_true c18
             have him := decode_imm hB _ (List.mem_of_getElem? hx1)
             refine W_if rfl ?_
             refine W_skip ?_
             refine F_seq ?_
             refine W_if rfl ?_
             refine W_reg (.pure 0 (.one 1 (.pure 2 (.pure 3 .nil)))) rfl ?_
             refine LP rfl rfl rfl (xfa fa26_4 rfl) ?_
             have le1 : Le w1 w7 := (hq1.le (hl2.trans (hl3.trans (hl4.trans (hl5.trans hl6)))) (inc (Nat.le_trans hl2.size (Nat.le_trans hl3.size (Nat.le_trans hl4.size hl5.size))) hb2z inn))
             refine LX rfl rfl rfl (xld sc24 rfl (cl_bk (Le.bk le1 hb1) rfl)) trivial ?_
             refine LP rfl rfl rfl (xlen un24 htr.sh rfl) ?_
             refine LP rfl rfl rfl (xas rfl) ?_
             refine LZ ?_
             refine F_block ?_
             refine F_seq ?_
             refine W_seq ?_
             refine W_reg (.pure 0 (.one 1 (.pure 2 (.pure 3 .nil)))) rfl ?_
             refine LP rfl rfl rfl (xfa fa145_4 rfl) ?_
             refine LX rfl rfl rfl (xld sc2 rfl (cl_bk hb3 rfl)) trivial ?_
             refine LP rfl rfl rfl (xmv rfl) ?_
             refine LP rfl rfl rfl (xgeq rfl rfl) ?_
             refine LZ ?_
             refine F_seq ?_
             refine W_cond rfl (fun c20 => ?_) (fun c20 => ?_)
             · -- c20 yes
              replace c20 := of_decide_eq_true c20
              refine W_seq ?_
              refine W_reg (.pure 0 .nil) rfl ?_
              refine LP rfl rfl rfl (xas rfl) ?_
              refine LZ ?_
              refine F_seq ?_
              refine W_ret ?_
              refine F_ret_block ?_
              refine F_ret_then ?_
              refine F_ret_then ?_
              refine F_ret_block ?_
              refine F_ret_then ?_
              have e : checkR t = 132 := by exact check_idx (t := t) (by omega) (by omega) h3 h4 hx1 (by unfold idxBad; grind)
              have le2 : Le w w7 := (hq1.le (hl1.trans (hl2.trans (hl3.trans (hl4.trans (hl5.trans hl6))))) (inc (Nat.le_trans hl1.size (Nat.le_trans hl2.size (Nat.le_trans hl3.size (Nat.le_trans hl4.size hl5.size)))) hb2z inn))
              exact F_end1 rfl rfl ⟨_, rfl, (by rw [e]; try rfl), le2⟩
             · -- c20 no
              replace c20 := of_decide_eq_false c20
              refine W_skip ?_
              refine F_block ?_
              refine F_seq ?_
              refine W_reg (.pure 0 (.pure 1 .nil)) rfl ?_
              refine LP rfl rfl rfl (xaddn rfl rfl (by omega)) ?_
              refine LP rfl rfl rfl (xmv rfl) ?_
              refine LZ ?_
              have le3 : Le w4 w7 := (hq1.le (hl5.trans hl6) (inc hl5.size hb2z inn))
              exact F_roundv (k + 1) ⟨le3, by omega, lt_step hnt hx1 (by unfold idxBad; grind)⟩ (by (try dsimp only); omega) (lk_loop 20 rfl rfl (hvc rfl hvn))
            · -- c18 no
             replace c18 := of_decide_eq_false c18
             have him := decode_imm hB _ (List.mem_of_getElem? hx1)
             refine W_else rfl ?_
             refine W_reg (.pure 0 (.pure 1 .nil)) rfl ?_
             refine LP rfl rfl rfl (xeql rfl rfl) ?_
             refine LP rfl rfl rfl (xas rfl) ?_
             refine LZ ?_
             refine F_seq ?_
             refine W_split (t := 72) rfl (fun c21 => ?_) (fun c21 => ?_)
             · -- c21 yes
              replace c21 := of_decide_eq_true c21
              have him := decode_imm hB _ (List.mem_of_getElem? hx1)
              refine W_if rfl ?_
              refine W_reg (.pure 0 (.one 1 (.pure 2 (.pure 3 .nil)))) rfl ?_
              refine LP rfl rfl rfl (xfa fa26_4 rfl) ?_
              have le4 : Le w1 w7 := (hq1.le (hl2.trans (hl3.trans (hl4.trans (hl5.trans hl6)))) (inc (Nat.le_trans hl2.size (Nat.le_trans hl3.size (Nat.le_trans hl4.size hl5.size))) hb2z inn))
              refine LX rfl rfl rfl (xld sc24 rfl (cl_bk (Le.bk le4 hb1) rfl)) trivial ?_
              refine LP rfl rfl rfl (xlen un24 htr.sh rfl) ?_
              refine LP rfl rfl rfl (xas rfl) ?_
              refine LZ ?_
              refine F_block ?_
              refine F_seq ?_
              refine W_seq ?_
              refine W_reg (.pure 0 (.one 1 (.pure 2 (.pure 3 .nil)))) rfl ?_
              refine LP rfl rfl rfl (xfa fa145_4 rfl) ?_
              refine LX rfl rfl rfl (xld sc2 rfl (cl_bk hb3 rfl)) trivial ?_
              refine LP rfl rfl rfl (xmv rfl) ?_
              refine LP rfl rfl rfl (xgeq rfl rfl) ?_
              refine LZ ?_
              refine F_seq ?_
              refine W_cond rfl (fun c22 => ?_) (fun c22 => ?_)
              · -- c22 yes
               replace c22 := of_decide_eq_true c22
               refine W_seq ?_
               refine W_reg (.pure 0 .nil) rfl ?_
               refine LP rfl rfl rfl (xas rfl) ?_
               refine LZ ?_
               refine F_seq ?_
               refine W_ret ?_
               refine F_ret_block ?_
               refine F_ret_then ?_
               refine F_ret_then ?_
               refine F_ret_block ?_
               refine F_ret_then ?_
               have e : checkR t = 132 := by exact check_idx (t := t) (by omega) (by omega) h3 h4 hx1 (by unfold idxBad; grind)
               have le5 : Le w w7 := (hq1.le (hl1.trans (hl2.trans (hl3.trans (hl4.trans (hl5.trans hl6))))) (inc (Nat.le_trans hl1.size (Nat.le_trans hl2.size (Nat.le_trans hl3.size (Nat.le_trans hl4.size hl5.size)))) hb2z inn))
               exact F_end1 rfl rfl ⟨_, rfl, (by rw [e]; try rfl), le5⟩
              · -- c22 no
               replace c22 := of_decide_eq_false c22
               refine W_skip ?_
               refine F_block ?_
               refine F_seq ?_
               refine W_reg (.pure 0 (.pure 1 .nil)) rfl ?_
               refine LP rfl rfl rfl (xaddn rfl rfl (by omega)) ?_
               refine LP rfl rfl rfl (xmv rfl) ?_
               refine LZ ?_
               have le6 : Le w4 w7 := (hq1.le (hl5.trans hl6) (inc hl5.size hb2z inn))
               exact F_roundv (k + 1) ⟨le6, by omega, lt_step hnt hx1 (by unfold idxBad; grind)⟩ (by (try dsimp only); omega) (lk_loop 23 rfl rfl (hvc rfl hvn))
             · -- c21 no
              replace c21 := of_decide_eq_false c21
              have him := decode_imm hB _ (List.mem_of_getElem? hx1)
              refine W_else rfl ?_
              refine W_seq ?_
              refine W_seq ?_
              refine W_reg (.pure 0 (.pure 1 .nil)) rfl ?_
              refine LP rfl rfl rfl (xeql rfl rfl) ?_
              refine LP rfl rfl rfl (xas rfl) ?_
              refine LZ ?_
              refine F_seq ?_
              refine W_split (t := 78) rfl (fun c23 => ?_) (fun c23 => ?_)
              · -- c23 yes
               replace c23 := of_decide_eq_true c23
               refine W_if rfl ?_
               refine W_skip ?_
               refine F_seq ?_
               refine W_if rfl ?_
               refine W_reg (.pure 0 (.one 1 (.pure 2 (.pure 3 .nil)))) rfl ?_
               refine LP rfl rfl rfl (xfa fa26_5 rfl) ?_
               have le7 : Le w1 w7 := (hq1.le (hl2.trans (hl3.trans (hl4.trans (hl5.trans hl6)))) (inc (Nat.le_trans hl2.size (Nat.le_trans hl3.size (Nat.le_trans hl4.size hl5.size))) hb2z inn))
               refine LX rfl rfl rfl (xld sc24 rfl (cl_bk (Le.bk le7 hb1) rfl)) trivial ?_
               refine LP rfl rfl rfl (xlen un24 htw.sh rfl) ?_
               refine LP rfl rfl rfl (xas rfl) ?_
               refine LZ ?_
               refine F_block ?_
               refine F_seq ?_
               refine W_seq ?_
               refine W_reg (.pure 0 (.one 1 (.pure 2 (.pure 3 .nil)))) rfl ?_
               refine LP rfl rfl rfl (xfa fa145_4 rfl) ?_
               refine LX rfl rfl rfl (xld sc2 rfl (cl_bk hb3 rfl)) trivial ?_
               refine LP rfl rfl rfl (xmv rfl) ?_
               refine LP rfl rfl rfl (xgeq rfl rfl) ?_
               refine LZ ?_
               refine F_seq ?_
               refine W_cond rfl (fun c25 => ?_) (fun c25 => ?_)
               · -- c25 yes
                replace c25 := of_decide_eq_true c25
                refine W_seq ?_
                refine W_reg (.pure 0 .nil) rfl ?_
                refine LP rfl rfl rfl (xas rfl) ?_
                refine LZ ?_
                refine F_seq ?_
                refine W_ret ?_
                refine F_ret_block ?_
                refine F_ret_then ?_
                refine F_ret_then ?_
                refine F_ret_block ?_
                refine F_ret_then ?_
                have e : checkR t = 132 := by exact check_idx (t := t) (by omega) (by omega) h3 h4 hx1 (by unfold idxBad; grind)
                have le8 : Le w w7 := (hq1.le (hl1.trans (hl2.trans (hl3.trans (hl4.trans (hl5.trans hl6))))) (inc (Nat.le_trans hl1.size (Nat.le_trans hl2.size (Nat.le_trans hl3.size (Nat.le_trans hl4.size hl5.size)))) hb2z inn))
                exact F_end1 rfl rfl ⟨_, rfl, (by rw [e]; try rfl), le8⟩
               · -- c25 no
                replace c25 := of_decide_eq_false c25
                refine W_skip ?_
                refine F_block ?_
                refine F_seq ?_
                refine W_reg (.pure 0 (.pure 1 .nil)) rfl ?_
                refine LP rfl rfl rfl (xaddn rfl rfl (by omega)) ?_
                refine LP rfl rfl rfl (xmv rfl) ?_
                refine LZ ?_
                have le9 : Le w4 w7 := (hq1.le (hl5.trans hl6) (inc hl5.size hb2z inn))
                exact F_roundv (k + 1) ⟨le9, by omega, lt_step hnt hx1 (by unfold idxBad; grind)⟩ (by (try dsimp only); omega) (lk_loop 26 rfl rfl (hvc rfl hvn))
              · -- c23 no
               replace c23 := of_decide_eq_false c23
               refine W_else rfl ?_
               refine W_reg (.pure 0 (.pure 1 .nil)) rfl ?_
               refine LP rfl rfl rfl (xeql rfl rfl) ?_
               refine LP rfl rfl rfl (xas rfl) ?_
               refine LZ ?_
               refine F_seq ?_
               refine W_split (t := 78) rfl (fun c26 => ?_) (fun c26 => ?_)
               · -- c26 yes
                replace c26 := of_decide_eq_true c26
                refine W_if rfl ?_
                refine W_reg (.pure 0 (.one 1 (.pure 2 (.pure 3 .nil)))) rfl ?_
                refine LP rfl rfl rfl (xfa fa26_5 rfl) ?_
                have le10 : Le w1 w7 := (hq1.le (hl2.trans (hl3.trans (hl4.trans (hl5.trans hl6)))) (inc (Nat.le_trans hl2.size (Nat.le_trans hl3.size (Nat.le_trans hl4.size hl5.size))) hb2z inn))
                refine LX rfl rfl rfl (xld sc24 rfl (cl_bk (Le.bk le10 hb1) rfl)) trivial ?_
                refine LP rfl rfl rfl (xlen un24 htw.sh rfl) ?_
                refine LP rfl rfl rfl (xas rfl) ?_
                refine LZ ?_
                refine F_block ?_
                refine F_seq ?_
                refine W_seq ?_
                refine W_reg (.pure 0 (.one 1 (.pure 2 (.pure 3 .nil)))) rfl ?_
                refine LP rfl rfl rfl (xfa fa145_4 rfl) ?_
                refine LX rfl rfl rfl (xld sc2 rfl (cl_bk hb3 rfl)) trivial ?_
                refine LP rfl rfl rfl (xmv rfl) ?_
                refine LP rfl rfl rfl (xgeq rfl rfl) ?_
                refine LZ ?_
                refine F_seq ?_
                refine W_cond rfl (fun c27 => ?_) (fun c27 => ?_)
                · -- c27 yes
                 replace c27 := of_decide_eq_true c27
                 refine W_seq ?_
                 refine W_reg (.pure 0 .nil) rfl ?_
                 refine LP rfl rfl rfl (xas rfl) ?_
                 refine LZ ?_
                 refine F_seq ?_
                 refine W_ret ?_
                 refine F_ret_block ?_
                 refine F_ret_then ?_
                 refine F_ret_then ?_
                 refine F_ret_block ?_
                 refine F_ret_then ?_
                 have e : checkR t = 132 := by exact check_idx (t := t) (by omega) (by omega) h3 h4 hx1 (by unfold idxBad; grind)
                 have le11 : Le w w7 := (hq1.le (hl1.trans (hl2.trans (hl3.trans (hl4.trans (hl5.trans hl6))))) (inc (Nat.le_trans hl1.size (Nat.le_trans hl2.size (Nat.le_trans hl3.size (Nat.le_trans hl4.size hl5.size)))) hb2z inn))
                 exact F_end1 rfl rfl ⟨_, rfl, (by rw [e]; try rfl), le11⟩
                · -- c27 no
                 replace c27 := of_decide_eq_false c27
                 refine W_skip ?_
                 refine F_block ?_
                 refine F_seq ?_
                 refine W_reg (.pure 0 (.pure 1 .nil)) rfl ?_
                 refine LP rfl rfl rfl (xaddn rfl rfl (by omega)) ?_
                 refine LP rfl rfl rfl (xmv rfl) ?_
                 refine LZ ?_
                 have le12 : Le w4 w7 := (hq1.le (hl5.trans hl6) (inc hl5.size hb2z inn))
                 exact F_roundv (k + 1) ⟨le12, by omega, lt_step hnt hx1 (by unfold idxBad; grind)⟩ (by (try dsimp only); omega) (lk_loop 29 rfl rfl (hvc rfl hvn))
               · -- c26 no
                replace c26 := of_decide_eq_false c26
                refine W_else rfl ?_
                refine W_seq ?_
                refine W_reg (.pure 0 (.pure 1 .nil)) rfl ?_
                refine LP rfl rfl rfl (xeql rfl rfl) ?_
                refine LP rfl rfl rfl (xas rfl) ?_
                refine LZ ?_
                refine F_seq ?_
                refine W_cond rfl (fun c28 => ?_) (fun c28 => ?_)
                · -- c28 yes
                 replace c28 := of_decide_eq_true c28
                 refine W_reg (.pure 0 (.one 1 (.pure 2 (.pure 3 .nil)))) rfl ?_
                 refine LP rfl rfl rfl (xfa fa26_3 rfl) ?_
                 have le13 : Le w1 w7 := (hq1.le (hl2.trans (hl3.trans (hl4.trans (hl5.trans hl6)))) (inc (Nat.le_trans hl2.size (Nat.le_trans hl3.size (Nat.le_trans hl4.size hl5.size))) hb2z inn))
                 refine LX rfl rfl rfl (xld sc23 rfl (cl_bk (Le.bk le13 hb1) rfl)) trivial ?_
                 refine LP rfl rfl rfl (xlen un23 hta.sh rfl) ?_
                 refine LP rfl rfl rfl (xas rfl) ?_
                 refine LZ ?_
                 refine F_block ?_
                 refine F_seq ?_
                 refine W_seq ?_
                 refine W_reg (.pure 0 (.one 1 (.pure 2 (.pure 3 .nil)))) rfl ?_
                 refine LP rfl rfl rfl (xfa fa145_4 rfl) ?_
                 refine LX rfl rfl rfl (xld sc2 rfl (cl_bk hb3 rfl)) trivial ?_
                 refine LP rfl rfl rfl (xmv rfl) ?_
                 refine LP rfl rfl rfl (xgeq rfl rfl) ?_
                 refine LZ ?_
                 refine F_seq ?_
                 refine W_cond rfl (fun c29 => ?_) (fun c29 => ?_)
                 · -- c29 yes
                  replace c29 := of_decide_eq_true c29
                  refine W_seq ?_
                  refine W_reg (.pure 0 .nil) rfl ?_
                  refine LP rfl rfl rfl (xas rfl) ?_
                  refine LZ ?_
                  refine F_seq ?_
                  refine W_ret ?_
                  refine F_ret_block ?_
                  refine F_ret_then ?_
                  refine F_ret_then ?_
                  refine F_ret_block ?_
                  refine F_ret_then ?_
                  have e : checkR t = 132 := by exact check_idx (t := t) (by omega) (by omega) h3 h4 hx1 (by unfold idxBad; grind)
                  have le14 : Le w w7 := (hq1.le (hl1.trans (hl2.trans (hl3.trans (hl4.trans (hl5.trans hl6))))) (inc (Nat.le_trans hl1.size (Nat.le_trans hl2.size (Nat.le_trans hl3.size (Nat.le_trans hl4.size hl5.size)))) hb2z inn))
                  exact F_end1 rfl rfl ⟨_, rfl, (by rw [e]; try rfl), le14⟩
                 · -- c29 no
                  replace c29 := of_decide_eq_false c29
                  refine W_skip ?_
                  refine F_block ?_
                  refine F_seq ?_
                  refine W_reg (.pure 0 (.pure 1 .nil)) rfl ?_
                  refine LP rfl rfl rfl (xaddn rfl rfl (by omega)) ?_
                  refine LP rfl rfl rfl (xmv rfl) ?_
                  refine LZ ?_
                  have le15 : Le w4 w7 := (hq1.le (hl5.trans hl6) (inc hl5.size hb2z inn))
                  exact F_roundv (k + 1) ⟨le15, by omega, lt_step hnt hx1 (by unfold idxBad; grind)⟩ (by (try dsimp only); omega) (lk_loop 31 rfl rfl (hvc rfl hvn))
                · -- c28 no
                 replace c28 := of_decide_eq_false c28
                 refine W_skip ?_
                 refine F_block ?_
                 refine F_seq ?_
                 refine W_seq ?_
                 refine W_reg (.pure 0 (.one 1 (.pure 2 (.pure 3 .nil)))) rfl ?_
                 refine LP rfl rfl rfl (xfa fa145_4 rfl) ?_
                 refine LX rfl rfl rfl (xld sc2 rfl (cl_bk hb3 rfl)) trivial ?_
                 refine LP rfl rfl rfl (xmv rfl) ?_
                 refine LP rfl rfl rfl (xgeq rfl rfl) ?_
                 refine LZ ?_
                 refine F_seq ?_
                 refine W_cond rfl (fun c30 => ?_) (fun c30 => ?_)
                 · -- c30 yes
                  replace c30 := of_decide_eq_true c30
                  refine W_seq ?_
                  refine W_reg (.pure 0 .nil) rfl ?_
                  refine LP rfl rfl rfl (xas rfl) ?_
                  refine LZ ?_
                  refine F_seq ?_
                  refine W_ret ?_
                  refine F_ret_block ?_
                  refine F_ret_then ?_
                  refine F_ret_then ?_
                  refine F_ret_block ?_
                  refine F_ret_then ?_
                  have e : checkR t = 132 := by exact check_idx (t := t) (by omega) (by omega) h3 h4 hx1 (by unfold idxBad; grind)
                  have le16 : Le w w7 := (hq1.le (hl1.trans (hl2.trans (hl3.trans (hl4.trans (hl5.trans hl6))))) (inc (Nat.le_trans hl1.size (Nat.le_trans hl2.size (Nat.le_trans hl3.size (Nat.le_trans hl4.size hl5.size)))) hb2z inn))
                  exact F_end1 rfl rfl ⟨_, rfl, (by rw [e]; try rfl), le16⟩
                 · -- c30 no
                  replace c30 := of_decide_eq_false c30
                  refine W_skip ?_
                  refine F_block ?_
                  refine F_seq ?_
                  refine W_reg (.pure 0 (.pure 1 .nil)) rfl ?_
                  refine LP rfl rfl rfl (xaddn rfl rfl (by omega)) ?_
                  refine LP rfl rfl rfl (xmv rfl) ?_
                  refine LZ ?_
                  have le17 : Le w4 w7 := (hq1.le (hl5.trans hl6) (inc hl5.size hb2z inn))
                  exact F_roundv (k + 1) ⟨le17, by omega, lt_step hnt hx1 (by unfold idxBad; grind)⟩ (by (try dsimp only); omega) (lk_loop 27 rfl rfl (hvc rfl hvn))
           · -- c17 no
            replace c17 := of_decide_eq_false c17
            refine W_exit ?_
            refine F_exit_then ?_
            refine F_exit_then ?_
            refine F_exit_here ?_
            refine F_seq ?_
            refine W_seq ?_
            refine W_reg (.pure 0 .nil) rfl ?_
            refine LP rfl rfl rfl (xas rfl) ?_
            refine LZ ?_
            refine F_seq ?_
            refine W_ret ?_
            have e : checkR t = 0 := by exact check_ok (t := t) (by omega) (by omega) h3 h4 hnt (by omega)
            exact F_end1 rfl rfl ⟨_, rfl, (by rw [e]; try rfl), (hl1.trans (hl2.trans (hl3.trans (hl4.trans hl5))))⟩
end Go.Proofs.Ythmhbonhagjnnaa
