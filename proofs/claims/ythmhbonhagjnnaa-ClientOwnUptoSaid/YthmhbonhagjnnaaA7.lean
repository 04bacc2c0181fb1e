/- Procedures: an instruction is read. -/
import Derived.Test.YthmhbonhagjnnaaProg
import Derived.Test.YthmhbonhagjnnaaA6
import Derived.KernelRfl
namespace Go.Proofs.Ythmhbonhagjnnaa
open Go.RowKit
set_option linter.unusedVariables false
set_option linter.unusedSimpArgs false
theorem zr145 : Zr Try.prog 145 [.int .i64 0, .int .i64 0, .int .i64 0, .int .i64 0, .int .i64 0] := Zr.of (z := .agg #[.int .i64 0, .int .i64 0, .int .i64 0, .int .i64 0, .int .i64 0]) (fun _ => by kernel_rfl) rfl
theorem bd145_ : ∀ (_ : Unit), BD Try.prog 145 [] #[.int .i64 0, .int .i64 0, .int .i64 0, .int .i64 0, .int .i64 0] := fun _ _ => by kernel_rfl
theorem sz145 : ∀ w, (sizeOf 145).run Try.prog w = .ok 5 w := fun _ => by kernel_rfl
theorem ag145 : Ag Try.prog 145 5 := ⟨fun _ => by kernel_rfl, fun _ => by kernel_rfl⟩
theorem sc5 : Sc Try.prog 5 := fun _ => by kernel_rfl
theorem un5 : Try.prog.underlying 5 = some (.int .u8) := by kernel_rfl
theorem un3 : Try.prog.underlying 3 = some (.int .i64) := by kernel_rfl
theorem has153 : Has Try.prog 153 Try.f153 := ⟨Try.func153, by kernel_rfl, rfl⟩
theorem bd145_0ii_1ii : ∀ (x0_0 : Int) (x1_0 : Int), BD Try.prog 145 [(0, .int .i64 x0_0), (1, .int .i64 x1_0)] #[.int .i64 x0_0, .int .i64 x1_0, .int .i64 0, .int .i64 0, .int .i64 0] := fun _ _ => fun _ => by kernel_rfl
theorem has155 : Has Try.prog 155 Try.f155 := ⟨Try.func155, by kernel_rfl, rfl⟩
theorem un72 : Try.prog.underlying 72 = some (.int .u16) := by kernel_rfl
theorem un70 : Try.prog.underlying 70 = some (.int .i16) := by kernel_rfl
theorem c_one {vb : Value} {b : List Int} {p : Int} {w : World} (hb : RdE w.heap ByteE vb b) (hB : ∀ x ∈ b, 0 ≤ x ∧ x ≤ 255) :
    Fn Try.prog 143 #[vb, .int .i64 p] w fun v w' => v = .tuple #[.agg (InstrE.f (oneR b p).1).toArray, .int .i64 (oneR b p).2.1, .int .i64 (oneR b p).2.2] ∧ Le w w' := by
 refine Fn.enter 132 [(0, _), (1, _)] Try.func143 rfl rfl rfl rfl ?_
 have hzb := hb.sh.le
 refine W_seq ?_
 refine W_reg (.one 0 (.pure 1 (.pure 2 .nil))) rfl ?_
 refine LT rfl rfl rfl (xal zr145) ?_
 rintro _ w1 ⟨b1, rfl, hl1, hb1, hb1z⟩
 refine ⟨trivial, ?_⟩
 refine LP rfl rfl rfl (xas rfl) ?_
 refine LP rfl rfl rfl (xas rfl) ?_
 refine LZ ?_
 refine F_seq ?_
 refine W_seq ?_
 refine W_seq ?_
 refine W_reg (.pure 0 (.pure 1 (.pure 2 (.pure 3 (.pure 4 (.pure 5 (.pure 6 (.pure 7 .nil)))))))) rfl ?_
 refine LP rfl rfl rfl (xmv rfl) ?_
 refine LP rfl rfl rfl (xlss rfl rfl) ?_
 refine LP rfl rfl rfl (xmv rfl) ?_
 refine L_split (t := 15) rfl (fun c1 => ?_) (fun c1 => ?_)
 · -- c1 yes
  replace c1 := of_decide_eq_true c1
  refine LN rfl rfl rfl ?_
  refine LN rfl rfl rfl ?_
  refine LN rfl rfl rfl ?_
  refine LN rfl rfl rfl ?_
  refine LP rfl rfl rfl (xpk1 rfl rfl) ?_
  refine LZ ?_
  refine F_seq ?_
  refine W_if rfl ?_
  refine W_seq ?_
  refine W_reg (.pure 0 (.one 1 (.pure 2 (.pure 3 .nil)))) rfl ?_
  refine LP rfl rfl rfl (xbd rfl (bd145_ ())) ?_
  refine LU rfl rfl (xsb sz145 hb1 rfl rfl (agg_cells _) rfl rfl (al_cons rfl (al_cons rfl (al_cons rfl (al_cons rfl (al_cons rfl al_nil)))))) ?_
  rintro w2 ⟨hq1, hb2⟩
  dsimp only [put] at hb2
  refine ⟨trivial, ?_⟩
  refine LP rfl rfl rfl (xas rfl) ?_
  refine LP rfl rfl rfl (xas rfl) ?_
  refine LZ ?_
  refine F_seq ?_
  refine W_ret ?_
  refine F_ret_then ?_
  have e := one_out (b := b) (p := p) (by omega)
  have le1 : Le w w2 := (hq1.le hl1 (inc (Nat.le_refl _) hb1z inn))
  exact F_endR (rs := [.cell 4 145, .tmp 5, .tmp 6]) rfl (.cell rfl (run_ld0 ag145 hb2 rfl) (.tmp rfl (.tmp rfl .nil))) rfl ⟨_, rfl, by rw [e]; rfl, le1⟩
 · -- c1 no
  replace c1 := of_decide_eq_false c1
  refine LP rfl rfl rfl (xmv rfl) ?_
  refine LP rfl rfl rfl (xmv rfl) ?_
  refine LP rfl rfl rfl (xlen un22 hb.sh rfl) ?_
  refine LP rfl rfl rfl (xgeq rfl rfl) ?_
  refine LP rfl rfl rfl (xpk0 rfl rfl) ?_
  refine LZ ?_
  refine F_seq ?_
  refine W_cond rfl (fun c3 => ?_) (fun c3 => ?_)
  · -- c3 yes
   replace c3 := of_decide_eq_true c3
   refine W_seq ?_
   refine W_reg (.pure 0 (.one 1 (.pure 2 (.pure 3 .nil)))) rfl ?_
   refine LP rfl rfl rfl (xbd rfl (bd145_ ())) ?_
   refine LU rfl rfl (xsb sz145 hb1 rfl rfl (agg_cells _) rfl rfl (al_cons rfl (al_cons rfl (al_cons rfl (al_cons rfl (al_cons rfl al_nil)))))) ?_
   rintro w3 ⟨hq2, hb3⟩
   dsimp only [put] at hb3
   refine ⟨trivial, ?_⟩
   refine LP rfl rfl rfl (xas rfl) ?_
   refine LP rfl rfl rfl (xas rfl) ?_
   refine LZ ?_
   refine F_seq ?_
   refine W_ret ?_
   refine F_ret_then ?_
   have e := one_out (b := b) (p := p) (by omega)
   have le2 : Le w w3 := (hq2.le hl1 (inc (Nat.le_refl _) hb1z inn))
   exact F_endR (rs := [.cell 4 145, .tmp 5, .tmp 6]) rfl (.cell rfl (run_ld0 ag145 hb3 rfl) (.tmp rfl (.tmp rfl .nil))) rfl ⟨_, rfl, by rw [e]; rfl, le2⟩
  · -- c3 no
   replace c3 := of_decide_eq_false c3
   obtain ⟨n, rfl⟩ : ∃ n : Nat, p = n := ⟨p.toNat, by omega⟩
   obtain ⟨x, hx⟩ : ∃ x, b[n]? = some x := ⟨_, List.getElem?_eq_getElem (by omega)⟩
   have hxr := hB x (List.mem_of_getElem? hx)
   have hzr := sizeR_rng x
   obtain ⟨sz, hsz⟩ : ∃ sz : Nat, sizeR x = sz := ⟨(sizeR x).toNat, by omega⟩
   refine W_skip ?_
   refine F_seq ?_
   refine W_seq ?_
   refine W_reg (.pure 0 (.pure 1 (.pure 2 (.one 3 (.pure 4 (.one 5 (.pure 6 (.pure 7 (.pure 8 (.pure 9 (.pure 10 .nil))))))))))) rfl ?_
   refine LP rfl rfl rfl (xmv rfl) ?_
   refine LP rfl rfl rfl (xmv rfl) ?_
   refine LP rfl rfl rfl (xix n un22 sz5 hb.sh rfl rfl (by omega) (by omega)) ?_
   refine LX rfl rfl rfl (xle1 sc5 (RdE.le hl1 hb) hx rfl rfl) trivial ?_
   refine LP rfl rfl rfl (xcvn un5 un3 (IntWalk.i64_in _ (by omega)) rfl) ?_
   refine LF rfl rfl rfl has153 rfl (size) ?_
   rintro _ w4 ⟨rfl, hl2⟩
   refine ⟨trivial, ?_⟩
   refine LP rfl rfl rfl (xmv rfl) ?_
   refine LP rfl rfl rfl (xext rfl rfl) ?_
   refine LP rfl rfl rfl (xext rfl rfl) ?_
   refine LP rfl rfl rfl (xas rfl) ?_
   refine LP rfl rfl rfl (xas rfl) ?_
   refine LZ ?_
   refine F_seq ?_
   refine W_seq ?_
   refine W_seq ?_
   refine W_reg (.pure 0 (.pure 1 (.pure 2 (.pure 3 (.pure 4 (.pure 5 (.pure 6 (.pure 7 (.pure 8 (.pure 9 .nil)))))))))) rfl ?_
   refine LP rfl rfl rfl (xmv rfl) ?_
   refine LP rfl rfl rfl (xnot rfl) ?_
   refine LP rfl rfl rfl (xmv rfl) ?_
   refine L_split (t := 33) rfl (fun c4 => ?_) (fun c4 => ?_)
   · -- c4 yes
    try simp only [Bool.not_eq_true', Bool.not_eq_false', decide_eq_true_eq, decide_eq_false_iff_not] at c4
    refine LN rfl rfl rfl ?_
    refine LN rfl rfl rfl ?_
    refine LN rfl rfl rfl ?_
    refine LN rfl rfl rfl ?_
    refine LN rfl rfl rfl ?_
    refine LN rfl rfl rfl ?_
    refine LP rfl rfl rfl (xpk1 rfl rfl) ?_
    refine LZ ?_
    refine F_seq ?_
    refine W_if rfl ?_
    refine W_seq ?_
    refine W_reg (.pure 0 (.one 1 (.pure 2 (.pure 3 .nil)))) rfl ?_
    refine LP rfl rfl rfl (xbd rfl (bd145_ ())) ?_
    refine LU rfl rfl (xsb sz145 (Le.bk hl2 hb1) rfl rfl (agg_cells _) rfl rfl (al_cons rfl (al_cons rfl (al_cons rfl (al_cons rfl (al_cons rfl al_nil)))))) ?_
    rintro w5 ⟨hq3, hb4⟩
    dsimp only [put] at hb4
    refine ⟨trivial, ?_⟩
    refine LP rfl rfl rfl (xas rfl) ?_
    refine LP rfl rfl rfl (xas rfl) ?_
    refine LZ ?_
    refine F_seq ?_
    refine W_ret ?_
    refine F_ret_then ?_
    have e := (one_at hx).trans (if_pos (by first | omega | (left; exact size_z (by simpa using c4))))
    have le3 : Le w w5 := (hq3.le (hl1.trans hl2) (inc (Nat.le_refl _) hb1z inn))
    exact F_endR (rs := [.cell 4 145, .tmp 5, .tmp 6]) rfl (.cell rfl (run_ld0 ag145 hb4 rfl) (.tmp rfl (.tmp rfl .nil))) rfl ⟨_, rfl, by rw [e]; rfl, le3⟩
   · -- c4 no
    try simp only [Bool.not_eq_true', Bool.not_eq_false', decide_eq_true_eq, decide_eq_false_iff_not] at c4
    refine LP rfl rfl rfl (xmv rfl) ?_
    refine LP rfl rfl rfl (xmv rfl) ?_
    refine LP rfl rfl rfl (xlen un22 hb.sh rfl) ?_
    refine LP rfl rfl rfl (xmv rfl) ?_
    refine LP rfl rfl rfl (xsubn rfl rfl (by omega)) ?_
    refine LP rfl rfl rfl (xgtr rfl rfl) ?_
    refine LP rfl rfl rfl (xpk0 rfl rfl) ?_
    refine LZ ?_
    refine F_seq ?_
    refine W_cond rfl (fun c6 => ?_) (fun c6 => ?_)
    · -- c6 yes
     replace c6 := of_decide_eq_true c6
     refine W_seq ?_
     refine W_reg (.pure 0 (.one 1 (.pure 2 (.pure 3 .nil)))) rfl ?_
     refine LP rfl rfl rfl (xbd rfl (bd145_ ())) ?_
     refine LU rfl rfl (xsb sz145 (Le.bk hl2 hb1) rfl rfl (agg_cells _) rfl rfl (al_cons rfl (al_cons rfl (al_cons rfl (al_cons rfl (al_cons rfl al_nil)))))) ?_
     rintro w6 ⟨hq4, hb5⟩
     dsimp only [put] at hb5
     refine ⟨trivial, ?_⟩
     refine LP rfl rfl rfl (xas rfl) ?_
     refine LP rfl rfl rfl (xas rfl) ?_
     refine LZ ?_
     refine F_seq ?_
     refine W_ret ?_
     refine F_ret_then ?_
     have e := (one_at hx).trans (if_pos (by first | omega | (left; exact size_z (by simpa using None))))
     have le4 : Le w w6 := (hq4.le (hl1.trans hl2) (inc (Nat.le_refl _) hb1z inn))
     exact F_endR (rs := [.cell 4 145, .tmp 5, .tmp 6]) rfl (.cell rfl (run_ld0 ag145 hb5 rfl) (.tmp rfl (.tmp rfl .nil))) rfl ⟨_, rfl, by rw [e]; rfl, le4⟩
    · -- c6 no
     replace c6 := of_decide_eq_false c6
     have hok : okOp x = true := by simpa using c4
     have hF := form_ok hok
     have hw := wide_rng hok
     have hsum := size_sum x
     refine W_skip ?_
     refine F_seq ?_
     refine W_seq ?_
     refine W_reg (.pure 0 (.pure 1 (.pure 2 (.pure 3 (.one 4 (.pure 5 (.pure 6 (.one 7 (.one 8 .nil))))))))) rfl ?_
     refine LP rfl rfl rfl (xmv rfl) ?_
     refine LP rfl rfl rfl (xmv rfl) ?_
     refine LP rfl rfl rfl (xmv rfl) ?_
     refine LP rfl rfl rfl (xix n un22 sz5 hb.sh rfl rfl (by omega) (by omega)) ?_
     refine LX rfl rfl rfl (xle1 sc5 (RdE.le (hl1.trans hl2) hb) hx rfl rfl) trivial ?_
     refine LP rfl rfl rfl (xcvn un5 un3 (IntWalk.i64_in _ (by omega)) rfl) ?_
     refine LP rfl rfl rfl (xbd rfl (bd145_0ii_1ii (n : Int) x)) ?_
     refine LT rfl rfl rfl (xal zr145) ?_
     rintro _ w7 ⟨b2, rfl, hl3, hb6, hb6z⟩
     refine ⟨trivial, ?_⟩
     refine LU rfl rfl (xsb sz145 hb6 rfl rfl (agg_cells _) rfl rfl (al_cons rfl (al_cons rfl (al_cons rfl (al_cons rfl (al_cons rfl al_nil)))))) ?_
     rintro w8 ⟨hq5, hb7⟩
     dsimp only [put] at hb7
     refine ⟨trivial, ?_⟩
     refine LZ ?_
     refine F_seq ?_
     refine W_seq ?_
     refine W_reg (.pure 0 (.one 1 (.one 2 (.pure 3 (.pure 4 (.pure 5 (.pure 6 (.pure 7 .nil)))))))) rfl ?_
     refine LP rfl rfl rfl (xfa fa145_1 rfl) ?_
     refine LX rfl rfl rfl (xld sc3 rfl (cl_bk hb7 rfl)) trivial ?_
     refine LF rfl rfl rfl has154 rfl (form) ?_
     rintro _ w9 ⟨rfl, hl4⟩
     refine ⟨trivial, ?_⟩
     refine LP rfl rfl rfl (xmv rfl) ?_
     refine LP rfl rfl rfl (xext rfl rfl) ?_
     refine LP rfl rfl rfl (xext rfl rfl) ?_
     refine LP rfl rfl rfl (xas rfl) ?_
     refine LP rfl rfl rfl (xas rfl) ?_
     refine LZ ?_
     refine F_seq ?_
     refine W_seq ?_
     refine W_reg (.pure 0 (.pure 1 (.pure 2 (.pure 3 (.pure 4 (.pure 5 (.pure 6 (.pure 7 .nil)))))))) rfl ?_
     refine LP rfl rfl rfl (xmv rfl) ?_
     refine LP rfl rfl rfl (xmv rfl) ?_
     refine LP rfl rfl rfl (xaddn rfl rfl (by omega)) ?_
     refine LP rfl rfl rfl (xmv rfl) ?_
     refine LP rfl rfl rfl (xmv rfl) ?_
     refine LP rfl rfl rfl (xaddn rfl rfl (by omega)) ?_
     refine LP rfl rfl rfl (xsublh (n + 1) (n + sz) un22 sz5 hb.sh rfl rfl rfl (by omega) (by omega) (by omega) (by first | omega | (simp only [List.length_append, List.length_take, List.length_drop, List.length_cons, List.length_nil, List.length_set, List.length_replicate, maxLen]; omega))) ?_
     refine LP rfl rfl rfl (xas rfl) ?_
     refine LZ ?_
     refine F_seq ?_
     refine W_seq ?_
     refine W_seq ?_
     refine W_reg (.pure 0 (.pure 1 (.pure 2 .nil))) rfl ?_
     refine LP rfl rfl rfl (xmv rfl) ?_
     refine LP rfl rfl rfl (xand rfl rfl) ?_
     refine LP rfl rfl rfl (xneq rfl rfl) ?_
     refine LZ ?_
     refine F_seq ?_
     refine W_cond rfl (fun c7 => ?_) (fun c7 => ?_)
     · -- c7 yes
      try simp only [Bool.not_eq_true', Bool.not_eq_false', decide_eq_true_eq, decide_eq_false_iff_not] at c7
      have ha : firstR x = true := hF.a.1 (by simpa using c7)
      simp only [ha, if_true] at hsum
      refine W_draw (.pure 0 (.pure 1 (.still 2 (.pure 3 (.pure 4 (.pure 5 (.pure 6 (.tail 7 (.pure 8 .nil))))))))) (Le w9) hfol (by kernel_rfl) (pkt pkB) (Le.drew _) ?_
      refine LP rfl rfl rfl (xmv rfl) ?_
      obtain ⟨y0, hy0⟩ : ∃ y, b[n + 1]? = some y := ⟨_, List.getElem?_eq_getElem (by omega)⟩
      have hyr0 := hB y0 (List.mem_of_getElem? hy0)
      have hs1 : ((b.drop (n + 1)).take ((n + sz) - (n + 1)))[0]? = some y0 := sub_get (i := 0) hy0 (by omega)
      refine LP rfl rfl rfl (xix 0 un22 sz5 (RdE.sub' hb (by first | omega | (simp only [List.length_append, List.length_take, List.length_drop, List.length_cons, List.length_nil, List.length_set, List.length_replicate, maxLen]; omega))).sh rfl rfl (by omega) (by first | omega | (simp only [List.length_append, List.length_take, List.length_drop, List.length_cons, List.length_nil, List.length_set, List.length_replicate, maxLen]; omega))) ?_
      have le5 : Le w w8 := (hq5.le (hl1.trans (hl2.trans hl3)) (inc (Nat.le_trans hl1.size hl2.size) hb6z inn))
      refine LS rfl rfl rfl (fun w' hw' => (xle1 sc5 (RdE.sub' (RdE.le ((le5.trans hl4).trans hw') hb) (by first | omega | (simp only [List.length_append, List.length_take, List.length_drop, List.length_cons, List.length_nil, List.length_set, List.length_replicate, maxLen]; omega))) hs1 rfl rfl)) ?_
      refine LP rfl rfl rfl (xcvn un5 un3 (IntWalk.i64_in _ (by omega)) rfl) ?_
      refine LP rfl rfl rfl (xmv rfl) ?_
      refine LP rfl rfl rfl (xsubl 1 un22 sz5 (RdE.sub' hb (by first | omega | (simp only [List.length_append, List.length_take, List.length_drop, List.length_cons, List.length_nil, List.length_set, List.length_replicate, maxLen]; omega))).sh rfl rfl (by omega) (by first | omega | (simp only [List.length_append, List.length_take, List.length_drop, List.length_cons, List.length_nil, List.length_set, List.length_replicate, maxLen]; omega))) ?_
      refine LP rfl rfl rfl (xfa fa145_2 rfl) ?_
      refine LUt rfl rfl (xsb sz3 (Le.bk (hl4.trans (Le.drew w9)) hb7) rfl rfl (int_cells _ _) rfl rfl (al_cons rfl al_nil)) ?_
      rintro w10 ⟨hq6, hb8⟩
      dsimp only [put] at hb8
      refine LP rfl rfl rfl (xas rfl) ?_
      refine LZ ?_
      refine F_seq ?_
      refine W_seq ?_
      refine W_seq ?_
      refine W_reg (.pure 0 (.pure 1 (.pure 2 .nil))) rfl ?_
      refine LP rfl rfl rfl (xmv rfl) ?_
      refine LP rfl rfl rfl (xand rfl rfl) ?_
      refine LP rfl rfl rfl (xneq rfl rfl) ?_
      refine LZ ?_
      refine F_seq ?_
      refine W_cond rfl (fun c8 => ?_) (fun c8 => ?_)
      · -- c8 yes
       try simp only [Bool.not_eq_true', Bool.not_eq_false', decide_eq_true_eq, decide_eq_false_iff_not] at c8
       have hb2 : twoR x = true := hF.b.1 (by simpa using c8)
       simp only [hb2, if_true] at hsum
       refine W_draw (.pure 0 (.pure 1 (.still 2 (.pure 3 (.pure 4 (.pure 5 (.pure 6 (.tail 7 (.pure 8 .nil))))))))) (Le w10) hfol (by kernel_rfl) (pkt pkB) (Le.drew _) ?_
       refine LP rfl rfl rfl (xmv rfl) ?_
       obtain ⟨y1, hy1⟩ : ∃ y, b[n + 2]? = some y := ⟨_, List.getElem?_eq_getElem (by omega)⟩
       have hyr1 := hB y1 (List.mem_of_getElem? hy1)
       have hs2 : (((b.drop (n + 1)).take ((n + sz) - (n + 1))).drop 1)[0]? = some y1 := drop_get (sub_get (i := 1) hy1 (by omega))
       refine LP rfl rfl rfl (xix 0 un22 sz5 (RdE.drop (RdE.sub' hb (by first | omega | (simp only [List.length_append, List.length_take, List.length_drop, List.length_cons, List.length_nil, List.length_set, List.length_replicate, maxLen]; omega))) (by first | omega | (simp only [List.length_append, List.length_take, List.length_drop, List.length_cons, List.length_nil, List.length_set, List.length_replicate, maxLen]; omega))).sh rfl rfl (by omega) (by first | omega | (simp only [List.length_append, List.length_take, List.length_drop, List.length_cons, List.length_nil, List.length_set, List.length_replicate, maxLen]; omega))) ?_
       have le6 : Le w w10 := (hq6.le (le5.trans (hl4.trans (Le.drew w9))) (inc (Nat.le_trans hl1.size hl2.size) hb6z inn))
       refine LS rfl rfl rfl (fun w' hw' => (xle1 sc5 (RdE.drop (RdE.sub' (RdE.le (le6.trans hw') hb) (by first | omega | (simp only [List.length_append, List.length_take, List.length_drop, List.length_cons, List.length_nil, List.length_set, List.length_replicate, maxLen]; omega))) (by first | omega | (simp only [List.length_append, List.length_take, List.length_drop, List.length_cons, List.length_nil, List.length_set, List.length_replicate, maxLen]; omega))) hs2 rfl rfl)) ?_
       refine LP rfl rfl rfl (xcvn un5 un3 (IntWalk.i64_in _ (by omega)) rfl) ?_
       refine LP rfl rfl rfl (xmv rfl) ?_
       refine LP rfl rfl rfl (xsubl 1 un22 sz5 (RdE.drop (RdE.sub' hb (by first | omega | (simp only [List.length_append, List.length_take, List.length_drop, List.length_cons, List.length_nil, List.length_set, List.length_replicate, maxLen]; omega))) (by first | omega | (simp only [List.length_append, List.length_take, List.length_drop, List.length_cons, List.length_nil, List.length_set, List.length_replicate, maxLen]; omega))).sh rfl rfl (by omega) (by first | omega | (simp only [List.length_append, List.length_take, List.length_drop, List.length_cons, List.length_nil, List.length_set, List.length_replicate, maxLen]; omega))) ?_
       refine LP rfl rfl rfl (xfa fa145_3 rfl) ?_
       refine LUt rfl rfl (xsb sz3 (Le.bk (Le.drew w10) hb8) rfl rfl (int_cells _ _) rfl rfl (al_cons rfl al_nil)) ?_
       rintro w11 ⟨hq7, hb9⟩
       dsimp only [put] at hb9
       refine LP rfl rfl rfl (xas rfl) ?_
       refine LZ ?_
       refine F_seq ?_
       refine W_seq ?_
       refine W_block ?_
       refine W_seq ?_
       refine W_reg (.pure 0 (.pure 1 (.pure 2 (.pure 3 .nil)))) rfl ?_
       refine LP rfl rfl rfl (xmv rfl) ?_
       refine LP rfl rfl rfl (xand rfl rfl) ?_
       refine LP rfl rfl rfl (xneq rfl rfl) ?_
       refine LP rfl rfl rfl (xas rfl) ?_
       refine LZ ?_
       refine F_seq ?_
       refine W_cond rfl (fun c9 => ?_) (fun c9 => ?_)
       · -- c9 yes
        try simp only [Bool.not_eq_true', Bool.not_eq_false', decide_eq_true_eq, decide_eq_false_iff_not] at c9
        have hy : wideR x = 1 := hF.y.1 (by simpa using c9)
        refine W_reg (.pure 0 (.pure 1 (.one 2 (.pure 3 (.pure 4 (.one 5 .nil)))))) rfl ?_
        refine LP rfl rfl rfl (xmv rfl) ?_
        obtain ⟨y2, hy2⟩ : ∃ y, b[n + 3]? = some y := ⟨_, List.getElem?_eq_getElem (by omega)⟩
        have hyr2 := hB y2 (List.mem_of_getElem? hy2)
        have hs3 : ((((b.drop (n + 1)).take ((n + sz) - (n + 1))).drop 1).drop 1)[0]? = some y2 := drop_get (drop_get (sub_get (i := 2) hy2 (by omega)))
        refine LP rfl rfl rfl (xix 0 un22 sz5 (RdE.drop (RdE.drop (RdE.sub' hb (by first | omega | (simp only [List.length_append, List.length_take, List.length_drop, List.length_cons, List.length_nil, List.length_set, List.length_replicate, maxLen]; omega))) (by first | omega | (simp only [List.length_append, List.length_take, List.length_drop, List.length_cons, List.length_nil, List.length_set, List.length_replicate, maxLen]; omega))) (by first | omega | (simp only [List.length_append, List.length_take, List.length_drop, List.length_cons, List.length_nil, List.length_set, List.length_replicate, maxLen]; omega))).sh rfl rfl (by omega) (by first | omega | (simp only [List.length_append, List.length_take, List.length_drop, List.length_cons, List.length_nil, List.length_set, List.length_replicate, maxLen]; omega))) ?_
        have le7 : Le w w11 := (hq7.le (le6.trans (Le.drew w10)) (inc (Nat.le_trans hl1.size hl2.size) hb6z inn))
        refine LX rfl rfl rfl (xle1 sc5 (RdE.drop (RdE.drop (RdE.sub' (RdE.le le7 hb) (by first | omega | (simp only [List.length_append, List.length_take, List.length_drop, List.length_cons, List.length_nil, List.length_set, List.length_replicate, maxLen]; omega))) (by first | omega | (simp only [List.length_append, List.length_take, List.length_drop, List.length_cons, List.length_nil, List.length_set, List.length_replicate, maxLen]; omega))) (by first | omega | (simp only [List.length_append, List.length_take, List.length_drop, List.length_cons, List.length_nil, List.length_set, List.length_replicate, maxLen]; omega))) hs3 rfl rfl) trivial ?_
        refine LP rfl rfl rfl (xcvn un5 un2 (IntWalk.i64_in _ (by omega)) rfl) ?_
        refine LP rfl rfl rfl (xfa fa145_4 rfl) ?_
        refine LU rfl rfl (xsb sz2 hb9 rfl rfl (int_cells _ _) rfl rfl (al_cons rfl al_nil)) ?_
        rintro w12 ⟨hq8, hb10⟩
        dsimp only [put] at hb10
        refine ⟨trivial, ?_⟩
        refine LZ ?_
        refine F_block ?_
        refine F_seq ?_
        refine W_seq ?_
        refine W_seq ?_
        refine W_reg (.one 0 (.one 1 (.pure 2 .nil))) rfl ?_
        refine LX rfl rfl rfl (xlb5 ag145 hb10 rfl rfl rfl rfl rfl rfl) trivial ?_
        refine LF rfl rfl rfl has155 rfl (c_index (x := ((n : Int), x, y0, y1, y2))) ?_
        rintro _ w13 ⟨rfl, hl5⟩
        refine ⟨trivial, ?_⟩
        refine LP rfl rfl rfl (xnot rfl) ?_
        refine LZ ?_
        refine F_seq ?_
        refine W_cond rfl (fun c10 => ?_) (fun c10 => ?_)
        · -- c10 yes
         try simp only [Bool.not_eq_true', Bool.not_eq_false', decide_eq_true_eq, decide_eq_false_iff_not] at c10
         refine W_seq ?_
         refine W_reg (.pure 0 (.one 1 (.pure 2 (.pure 3 .nil)))) rfl ?_
         refine LP rfl rfl rfl (xbd rfl (bd145_ ())) ?_
         have le8 : Le w1 w8 := (hq5.le (hl2.trans hl3) (inc hl2.size hb6z inn))
         have le9 : Le w1 w10 := (hq6.le (le8.trans (hl4.trans (Le.drew w9))) (inc hl2.size hb6z inn))
         have le10 : Le w1 w11 := (hq7.le (le9.trans (Le.drew w10)) (inc hl2.size hb6z inn))
         have le11 : Le w1 w12 := (hq8.le le10 (inc hl2.size hb6z inn))
         refine LU rfl rfl (xsb sz145 (Le.bk (le11.trans hl5) hb1) rfl rfl (agg_cells _) rfl rfl (al_cons rfl (al_cons rfl (al_cons rfl (al_cons rfl (al_cons rfl al_nil)))))) ?_
         rintro w14 ⟨hq9, hb11⟩
         dsimp only [put] at hb11
         have hk1 := hq9.bk (ni_new hb6z (Nat.lt_of_lt_of_le (bk_lt hb1) hl2.size) ni_nil) (Le.bk hl5 hb10)
         refine ⟨trivial, ?_⟩
         refine LP rfl rfl rfl (xas rfl) ?_
         refine LP rfl rfl rfl (xas rfl) ?_
         refine LZ ?_
         refine F_seq ?_
         refine W_ret ?_
         refine F_ret_then ?_
         have hrd : readR b n x = ((n : Int), x, y0, y1, y2) := by simp [readR, immR, placeB, placeI, getD_of, short_u16, short_i16, first1, two1, wide1, *]
         rw [← hrd] at c10
         rw [badX_read hB] at c10
         have e := (one_at hx).trans ((if_neg (by omega)).trans (if_pos (by simpa using c10)))
         have le12 : Le w w12 := (hq8.le le7 (inc (Nat.le_trans hl1.size hl2.size) hb6z inn))
         have le13 : Le w w14 := (hq9.le (le12.trans hl5) (inc (Nat.le_refl _) hb1z inn))
         exact F_endR (rs := [.cell 4 145, .tmp 5, .tmp 6]) rfl (.cell rfl (run_ld0 ag145 hb11 rfl) (.tmp rfl (.tmp rfl .nil))) rfl ⟨_, rfl, by rw [e]; rfl, le13⟩
        · -- c10 no
         try simp only [Bool.not_eq_true', Bool.not_eq_false', decide_eq_true_eq, decide_eq_false_iff_not] at c10
         refine W_skip ?_
         refine F_seq ?_
         refine W_seq ?_
         refine W_reg (.one 0 (.pure 1 (.pure 2 (.pure 3 (.one 4 (.pure 5 (.pure 6 .nil))))))) rfl ?_
         refine LX rfl rfl rfl (xlb5 ag145 (Le.bk hl5 hb10) rfl rfl rfl rfl rfl rfl) trivial ?_
         refine LP rfl rfl rfl (xmv rfl) ?_
         refine LP rfl rfl rfl (xmv rfl) ?_
         refine LP rfl rfl rfl (xaddn rfl rfl (by omega)) ?_
         have le14 : Le w1 w8 := (hq5.le (hl2.trans hl3) (inc hl2.size hb6z inn))
         have le15 : Le w1 w10 := (hq6.le (le14.trans (hl4.trans (Le.drew w9))) (inc hl2.size hb6z inn))
         have le16 : Le w1 w11 := (hq7.le (le15.trans (Le.drew w10)) (inc hl2.size hb6z inn))
         have le17 : Le w1 w12 := (hq8.le le16 (inc hl2.size hb6z inn))
         refine LU rfl rfl (xsb sz145 (Le.bk (le17.trans hl5) hb1) rfl rfl (agg_cells [.int .i64 ((n : Int), x, y0, y1, y2).1, .int .i64 ((n : Int), x, y0, y1, y2).2.1, .int .i64 ((n : Int), x, y0, y1, y2).2.2.1, .int .i64 ((n : Int), x, y0, y1, y2).2.2.2.1, .int .i64 ((n : Int), x, y0, y1, y2).2.2.2.2]) rfl rfl (al_cons rfl (al_cons rfl (al_cons rfl (al_cons rfl (al_cons rfl al_nil)))))) ?_
         rintro w15 ⟨hq10, hb12⟩
         dsimp only [put] at hb12
         have hk2 := hq10.bk (ni_new hb6z (Nat.lt_of_lt_of_le (bk_lt hb1) hl2.size) ni_nil) (Le.bk hl5 hb10)
         refine ⟨trivial, ?_⟩
         refine LP rfl rfl rfl (xas rfl) ?_
         refine LP rfl rfl rfl (xas rfl) ?_
         refine LZ ?_
         refine F_seq ?_
         refine W_ret ?_
         have hrd : readR b n x = ((n : Int), x, y0, y1, y2) := by simp [readR, immR, placeB, placeI, getD_of, short_u16, short_i16, first1, two1, wide1, *]
         rw [← hrd] at c10
         rw [badX_read hB] at c10
         have e0 := (one_at hx).trans ((if_neg (by omega)).trans (if_neg (by simpa using c10)))
         rw [hrd] at e0
         have e := e0
         have le18 : Le w w12 := (hq8.le le7 (inc (Nat.le_trans hl1.size hl2.size) hb6z inn))
         have le19 : Le w w15 := (hq10.le (le18.trans hl5) (inc (Nat.le_refl _) hb1z inn))
         exact F_endR (rs := [.cell 4 145, .tmp 5, .tmp 6]) rfl (.cell rfl (run_ld0 ag145 hb12 rfl) (.tmp rfl (.tmp rfl .nil))) rfl ⟨_, rfl, by rw [e]; rfl, le19⟩
       · -- c9 no
        try simp only [Bool.not_eq_true', Bool.not_eq_false', decide_eq_true_eq, decide_eq_false_iff_not] at c9
        have hy : wideR x ≠ 1 := mt hF.y.2 (by simpa using c9)
        refine W_seq ?_
        refine W_reg (.pure 0 (.pure 1 (.pure 2 (.pure 3 .nil)))) rfl ?_
        refine LP rfl rfl rfl (xmv rfl) ?_
        refine LP rfl rfl rfl (xand rfl rfl) ?_
        refine LP rfl rfl rfl (xneq rfl rfl) ?_
        refine LP rfl rfl rfl (xas rfl) ?_
        refine LZ ?_
        refine F_seq ?_
        refine W_cond rfl (fun c11 => ?_) (fun c11 => ?_)
        · -- c11 yes
         try simp only [Bool.not_eq_true', Bool.not_eq_false', decide_eq_true_eq, decide_eq_false_iff_not] at c11
         have hh : x = 1 := hF.h.1 (by simpa using c11)
         have hw2 : wideR x = 2 := by rw [hh]; decide
         exact absurd hh (fun e => by rw [e] at ha hb2; first | exact absurd ha (by decide) | exact absurd hb2 (by decide))
        · -- c11 no
         try simp only [Bool.not_eq_true', Bool.not_eq_false', decide_eq_true_eq, decide_eq_false_iff_not] at c11
         have hh : x ≠ 1 := mt hF.h.2 (by simpa using c11)
         refine W_seq ?_
         refine W_reg (.pure 0 (.pure 1 (.pure 2 (.pure 3 .nil)))) rfl ?_
         refine LP rfl rfl rfl (xmv rfl) ?_
         refine LP rfl rfl rfl (xand rfl rfl) ?_
         refine LP rfl rfl rfl (xneq rfl rfl) ?_
         refine LP rfl rfl rfl (xas rfl) ?_
         refine LZ ?_
         refine F_seq ?_
         refine W_cond rfl (fun c12 => ?_) (fun c12 => ?_)
         · -- c12 yes
          try simp only [Bool.not_eq_true', Bool.not_eq_false', decide_eq_true_eq, decide_eq_false_iff_not] at c12
          have hj : x = 22 ∨ x = 23 := hF.j.1 (by simpa using c12)
          have hw2 : wideR x = 2 := wide_two hj
          rcases hj with e | e <;> (rw [e] at hb2; exact absurd hb2 (by decide))
         · -- c12 no
          try simp only [Bool.not_eq_true', Bool.not_eq_false', decide_eq_true_eq, decide_eq_false_iff_not] at c12
          have hj : ¬ (x = 22 ∨ x = 23) := mt hF.j.2 (by simpa using c12)
          have hw2 : wideR x = 0 := wide_zero hok hy hh hj
          refine W_skip ?_
          refine F_block ?_
          refine F_seq ?_
          refine W_seq ?_
          refine W_seq ?_
          refine W_reg (.one 0 (.one 1 (.pure 2 .nil))) rfl ?_
          refine LX rfl rfl rfl (xlb5 ag145 hb9 rfl rfl rfl rfl rfl rfl) trivial ?_
          refine LF rfl rfl rfl has155 rfl (c_index (x := ((n : Int), x, y0, y1, 0))) ?_
          rintro _ w16 ⟨rfl, hl6⟩
          refine ⟨trivial, ?_⟩
          refine LP rfl rfl rfl (xnot rfl) ?_
          refine LZ ?_
          refine F_seq ?_
          refine W_cond rfl (fun c13 => ?_) (fun c13 => ?_)
          · -- c13 yes
           try simp only [Bool.not_eq_true', Bool.not_eq_false', decide_eq_true_eq, decide_eq_false_iff_not] at c13
           refine W_seq ?_
           refine W_reg (.pure 0 (.one 1 (.pure 2 (.pure 3 .nil)))) rfl ?_
           refine LP rfl rfl rfl (xbd rfl (bd145_ ())) ?_
           have le20 : Le w1 w8 := (hq5.le (hl2.trans hl3) (inc hl2.size hb6z inn))
           have le21 : Le w1 w10 := (hq6.le (le20.trans (hl4.trans (Le.drew w9))) (inc hl2.size hb6z inn))
           have le22 : Le w1 w11 := (hq7.le (le21.trans (Le.drew w10)) (inc hl2.size hb6z inn))
           refine LU rfl rfl (xsb sz145 (Le.bk (le22.trans hl6) hb1) rfl rfl (agg_cells _) rfl rfl (al_cons rfl (al_cons rfl (al_cons rfl (al_cons rfl (al_cons rfl al_nil)))))) ?_
           rintro w17 ⟨hq11, hb13⟩
           dsimp only [put] at hb13
           have hk3 := hq11.bk (ni_new hb6z (Nat.lt_of_lt_of_le (bk_lt hb1) hl2.size) ni_nil) (Le.bk hl6 hb9)
           refine ⟨trivial, ?_⟩
           refine LP rfl rfl rfl (xas rfl) ?_
           refine LP rfl rfl rfl (xas rfl) ?_
           refine LZ ?_
           refine F_seq ?_
           refine W_ret ?_
           refine F_ret_then ?_
           have hrd : readR b n x = ((n : Int), x, y0, y1, 0) := by simp [readR, immR, placeB, placeI, getD_of, short_u16, short_i16, first1, two1, wide1, *]
           rw [← hrd] at c13
           rw [badX_read hB] at c13
           have e := (one_at hx).trans ((if_neg (by omega)).trans (if_pos (by simpa using c13)))
           have le23 : Le w w11 := (hq7.le (le6.trans (Le.drew w10)) (inc (Nat.le_trans hl1.size hl2.size) hb6z inn))
           have le24 : Le w w17 := (hq11.le (le23.trans hl6) (inc (Nat.le_refl _) hb1z inn))
           exact F_endR (rs := [.cell 4 145, .tmp 5, .tmp 6]) rfl (.cell rfl (run_ld0 ag145 hb13 rfl) (.tmp rfl (.tmp rfl .nil))) rfl ⟨_, rfl, by rw [e]; rfl, le24⟩
          · -- c13 no
           try simp only [Bool.not_eq_true', Bool.not_eq_false', decide_eq_true_eq, decide_eq_false_iff_not] at c13
           refine W_skip ?_
           refine F_seq ?_
           refine W_seq ?_
           refine W_reg (.one 0 (.pure 1 (.pure 2 (.pure 3 (.one 4 (.pure 5 (.pure 6 .nil))))))) rfl ?_
           refine LX rfl rfl rfl (xlb5 ag145 (Le.bk hl6 hb9) rfl rfl rfl rfl rfl rfl) trivial ?_
           refine LP rfl rfl rfl (xmv rfl) ?_
           refine LP rfl rfl rfl (xmv rfl) ?_
           refine LP rfl rfl rfl (xaddn rfl rfl (by omega)) ?_
           have le25 : Le w1 w8 := (hq5.le (hl2.trans hl3) (inc hl2.size hb6z inn))
           have le26 : Le w1 w10 := (hq6.le (le25.trans (hl4.trans (Le.drew w9))) (inc hl2.size hb6z inn))
           have le27 : Le w1 w11 := (hq7.le (le26.trans (Le.drew w10)) (inc hl2.size hb6z inn))
           refine LU rfl rfl (xsb sz145 (Le.bk (le27.trans hl6) hb1) rfl rfl (agg_cells [.int .i64 ((n : Int), x, y0, y1, 0).1, .int .i64 ((n : Int), x, y0, y1, 0).2.1, .int .i64 ((n : Int), x, y0, y1, 0).2.2.1, .int .i64 ((n : Int), x, y0, y1, 0).2.2.2.1, .int .i64 ((n : Int), x, y0, y1, 0).2.2.2.2]) rfl rfl (al_cons rfl (al_cons rfl (al_cons rfl (al_cons rfl (al_cons rfl al_nil)))))) ?_
           rintro w18 ⟨hq12, hb14⟩
           dsimp only [put] at hb14
           have hk4 := hq12.bk (ni_new hb6z (Nat.lt_of_lt_of_le (bk_lt hb1) hl2.size) ni_nil) (Le.bk hl6 hb9)
           refine ⟨trivial, ?_⟩
           refine LP rfl rfl rfl (xas rfl) ?_
           refine LP rfl rfl rfl (xas rfl) ?_
           refine LZ ?_
           refine F_seq ?_
           refine W_ret ?_
           have hrd : readR b n x = ((n : Int), x, y0, y1, 0) := by simp [readR, immR, placeB, placeI, getD_of, short_u16, short_i16, first1, two1, wide1, *]
           rw [← hrd] at c13
           rw [badX_read hB] at c13
           have e0 := (one_at hx).trans ((if_neg (by omega)).trans (if_neg (by simpa using c13)))
           rw [hrd] at e0
           have e := e0
           have le28 : Le w w11 := (hq7.le (le6.trans (Le.drew w10)) (inc (Nat.le_trans hl1.size hl2.size) hb6z inn))
           have le29 : Le w w18 := (hq12.le (le28.trans hl6) (inc (Nat.le_refl _) hb1z inn))
           exact F_endR (rs := [.cell 4 145, .tmp 5, .tmp 6]) rfl (.cell rfl (run_ld0 ag145 hb14 rfl) (.tmp rfl (.tmp rfl .nil))) rfl ⟨_, rfl, by rw [e]; rfl, le29⟩
      · -- c8 no
       try simp only [Bool.not_eq_true', Bool.not_eq_false', decide_eq_true_eq, decide_eq_false_iff_not] at c8
       have hb2 : twoR x = false := by simpa using mt hF.b.2 (by simpa using c8)
       simp only [hb2, Bool.false_eq_true, if_false] at hsum
       refine W_skip ?_
       refine F_seq ?_
       refine W_seq ?_
       refine W_block ?_
       refine W_seq ?_
       refine W_reg (.pure 0 (.pure 1 (.pure 2 (.pure 3 .nil)))) rfl ?_
       refine LP rfl rfl rfl (xmv rfl) ?_
       refine LP rfl rfl rfl (xand rfl rfl) ?_
       refine LP rfl rfl rfl (xneq rfl rfl) ?_
       refine LP rfl rfl rfl (xas rfl) ?_
       refine LZ ?_
       refine F_seq ?_
       refine W_cond rfl (fun c14 => ?_) (fun c14 => ?_)
       · -- c14 yes
        try simp only [Bool.not_eq_true', Bool.not_eq_false', decide_eq_true_eq, decide_eq_false_iff_not] at c14
        have hy : wideR x = 1 := hF.y.1 (by simpa using c14)
        refine W_reg (.pure 0 (.pure 1 (.one 2 (.pure 3 (.pure 4 (.one 5 .nil)))))) rfl ?_
        refine LP rfl rfl rfl (xmv rfl) ?_
        obtain ⟨y1, hy1⟩ : ∃ y, b[n + 2]? = some y := ⟨_, List.getElem?_eq_getElem (by omega)⟩
        have hyr1 := hB y1 (List.mem_of_getElem? hy1)
        have hs4 : (((b.drop (n + 1)).take ((n + sz) - (n + 1))).drop 1)[0]? = some y1 := drop_get (sub_get (i := 1) hy1 (by omega))
        refine LP rfl rfl rfl (xix 0 un22 sz5 (RdE.drop (RdE.sub' hb (by first | omega | (simp only [List.length_append, List.length_take, List.length_drop, List.length_cons, List.length_nil, List.length_set, List.length_replicate, maxLen]; omega))) (by first | omega | (simp only [List.length_append, List.length_take, List.length_drop, List.length_cons, List.length_nil, List.length_set, List.length_replicate, maxLen]; omega))).sh rfl rfl (by omega) (by first | omega | (simp only [List.length_append, List.length_take, List.length_drop, List.length_cons, List.length_nil, List.length_set, List.length_replicate, maxLen]; omega))) ?_
        have le30 : Le w w10 := (hq6.le (le5.trans (hl4.trans (Le.drew w9))) (inc (Nat.le_trans hl1.size hl2.size) hb6z inn))
        refine LX rfl rfl rfl (xle1 sc5 (RdE.drop (RdE.sub' (RdE.le le30 hb) (by first | omega | (simp only [List.length_append, List.length_take, List.length_drop, List.length_cons, List.length_nil, List.length_set, List.length_replicate, maxLen]; omega))) (by first | omega | (simp only [List.length_append, List.length_take, List.length_drop, List.length_cons, List.length_nil, List.length_set, List.length_replicate, maxLen]; omega))) hs4 rfl rfl) trivial ?_
        refine LP rfl rfl rfl (xcvn un5 un2 (IntWalk.i64_in _ (by omega)) rfl) ?_
        refine LP rfl rfl rfl (xfa fa145_4 rfl) ?_
        refine LU rfl rfl (xsb sz2 hb8 rfl rfl (int_cells _ _) rfl rfl (al_cons rfl al_nil)) ?_
        rintro w19 ⟨hq13, hb15⟩
        dsimp only [put] at hb15
        refine ⟨trivial, ?_⟩
        refine LZ ?_
        refine F_block ?_
        refine F_seq ?_
        refine W_seq ?_
        refine W_seq ?_
        refine W_reg (.one 0 (.one 1 (.pure 2 .nil))) rfl ?_
        refine LX rfl rfl rfl (xlb5 ag145 hb15 rfl rfl rfl rfl rfl rfl) trivial ?_
        refine LF rfl rfl rfl has155 rfl (c_index (x := ((n : Int), x, y0, 0, y1))) ?_
        rintro _ w20 ⟨rfl, hl7⟩
        refine ⟨trivial, ?_⟩
        refine LP rfl rfl rfl (xnot rfl) ?_
        refine LZ ?_
        refine F_seq ?_
        refine W_cond rfl (fun c15 => ?_) (fun c15 => ?_)
        · -- c15 yes
         try simp only [Bool.not_eq_true', Bool.not_eq_false', decide_eq_true_eq, decide_eq_false_iff_not] at c15
         refine W_seq ?_
         refine W_reg (.pure 0 (.one 1 (.pure 2 (.pure 3 .nil)))) rfl ?_
         refine LP rfl rfl rfl (xbd rfl (bd145_ ())) ?_
         have le31 : Le w1 w8 := (hq5.le (hl2.trans hl3) (inc hl2.size hb6z inn))
         have le32 : Le w1 w10 := (hq6.le (le31.trans (hl4.trans (Le.drew w9))) (inc hl2.size hb6z inn))
         have le33 : Le w1 w19 := (hq13.le le32 (inc hl2.size hb6z inn))
         refine LU rfl rfl (xsb sz145 (Le.bk (le33.trans hl7) hb1) rfl rfl (agg_cells _) rfl rfl (al_cons rfl (al_cons rfl (al_cons rfl (al_cons rfl (al_cons rfl al_nil)))))) ?_
         rintro w21 ⟨hq14, hb16⟩
         dsimp only [put] at hb16
         have hk5 := hq14.bk (ni_new hb6z (Nat.lt_of_lt_of_le (bk_lt hb1) hl2.size) ni_nil) (Le.bk hl7 hb15)
         refine ⟨trivial, ?_⟩
         refine LP rfl rfl rfl (xas rfl) ?_
         refine LP rfl rfl rfl (xas rfl) ?_
         refine LZ ?_
         refine F_seq ?_
         refine W_ret ?_
         refine F_ret_then ?_
         have hrd : readR b n x = ((n : Int), x, y0, 0, y1) := by simp [readR, immR, placeB, placeI, getD_of, short_u16, short_i16, first1, two1, wide1, *]
         rw [← hrd] at c15
         rw [badX_read hB] at c15
         have e := (one_at hx).trans ((if_neg (by omega)).trans (if_pos (by simpa using c15)))
         have le34 : Le w w19 := (hq13.le le30 (inc (Nat.le_trans hl1.size hl2.size) hb6z inn))
         have le35 : Le w w21 := (hq14.le (le34.trans hl7) (inc (Nat.le_refl _) hb1z inn))
         exact F_endR (rs := [.cell 4 145, .tmp 5, .tmp 6]) rfl (.cell rfl (run_ld0 ag145 hb16 rfl) (.tmp rfl (.tmp rfl .nil))) rfl ⟨_, rfl, by rw [e]; rfl, le35⟩
        · -- c15 no
         try simp only [Bool.not_eq_true', Bool.not_eq_false', decide_eq_true_eq, decide_eq_false_iff_not] at c15
         refine W_skip ?_
         refine F_seq ?_
         refine W_seq ?_
         refine W_reg (.one 0 (.pure 1 (.pure 2 (.pure 3 (.one 4 (.pure 5 (.pure 6 .nil))))))) rfl ?_
         refine LX rfl rfl rfl (xlb5 ag145 (Le.bk hl7 hb15) rfl rfl rfl rfl rfl rfl) trivial ?_
         refine LP rfl rfl rfl (xmv rfl) ?_
         refine LP rfl rfl rfl (xmv rfl) ?_
         refine LP rfl rfl rfl (xaddn rfl rfl (by omega)) ?_
         have le36 : Le w1 w8 := (hq5.le (hl2.trans hl3) (inc hl2.size hb6z inn))
         have le37 : Le w1 w10 := (hq6.le (le36.trans (hl4.trans (Le.drew w9))) (inc hl2.size hb6z inn))
         have le38 : Le w1 w19 := (hq13.le le37 (inc hl2.size hb6z inn))
         refine LU rfl rfl (xsb sz145 (Le.bk (le38.trans hl7) hb1) rfl rfl (agg_cells [.int .i64 ((n : Int), x, y0, 0, y1).1, .int .i64 ((n : Int), x, y0, 0, y1).2.1, .int .i64 ((n : Int), x, y0, 0, y1).2.2.1, .int .i64 ((n : Int), x, y0, 0, y1).2.2.2.1, .int .i64 ((n : Int), x, y0, 0, y1).2.2.2.2]) rfl rfl (al_cons rfl (al_cons rfl (al_cons rfl (al_cons rfl (al_cons rfl al_nil)))))) ?_
         rintro w22 ⟨hq15, hb17⟩
         dsimp only [put] at hb17
         have hk6 := hq15.bk (ni_new hb6z (Nat.lt_of_lt_of_le (bk_lt hb1) hl2.size) ni_nil) (Le.bk hl7 hb15)
         refine ⟨trivial, ?_⟩
         refine LP rfl rfl rfl (xas rfl) ?_
         refine LP rfl rfl rfl (xas rfl) ?_
         refine LZ ?_
         refine F_seq ?_
         refine W_ret ?_
         have hrd : readR b n x = ((n : Int), x, y0, 0, y1) := by simp [readR, immR, placeB, placeI, getD_of, short_u16, short_i16, first1, two1, wide1, *]
         rw [← hrd] at c15
         rw [badX_read hB] at c15
         have e0 := (one_at hx).trans ((if_neg (by omega)).trans (if_neg (by simpa using c15)))
         rw [hrd] at e0
         have e := e0
         have le39 : Le w w19 := (hq13.le le30 (inc (Nat.le_trans hl1.size hl2.size) hb6z inn))
         have le40 : Le w w22 := (hq15.le (le39.trans hl7) (inc (Nat.le_refl _) hb1z inn))
         exact F_endR (rs := [.cell 4 145, .tmp 5, .tmp 6]) rfl (.cell rfl (run_ld0 ag145 hb17 rfl) (.tmp rfl (.tmp rfl .nil))) rfl ⟨_, rfl, by rw [e]; rfl, le40⟩
       · -- c14 no
        try simp only [Bool.not_eq_true', Bool.not_eq_false', decide_eq_true_eq, decide_eq_false_iff_not] at c14
        have hy : wideR x ≠ 1 := mt hF.y.2 (by simpa using c14)
        refine W_seq ?_
        refine W_reg (.pure 0 (.pure 1 (.pure 2 (.pure 3 .nil)))) rfl ?_
        refine LP rfl rfl rfl (xmv rfl) ?_
        refine LP rfl rfl rfl (xand rfl rfl) ?_
        refine LP rfl rfl rfl (xneq rfl rfl) ?_
        refine LP rfl rfl rfl (xas rfl) ?_
        refine LZ ?_
        refine F_seq ?_
        refine W_cond rfl (fun c16 => ?_) (fun c16 => ?_)
        · -- c16 yes
         try simp only [Bool.not_eq_true', Bool.not_eq_false', decide_eq_true_eq, decide_eq_false_iff_not] at c16
         have hh : x = 1 := hF.h.1 (by simpa using c16)
         have hw2 : wideR x = 2 := by rw [hh]; decide
         refine W_draw (.pure 0 (.pure 1 (.still 2 (.pure 3 (.pure 4 (.pure 5 (.still 6 (.pure 7 (.pure 8 (.pure 9 (.pure 10 (.pure 11 (.pure 12 (.tail 13 .nil)))))))))))))) (Le w10) hfol (by kernel_rfl) (pkb (pkt pkB)) (Le.drew _) ?_
         refine LP rfl rfl rfl (xmv rfl) ?_
         obtain ⟨y1, hy1⟩ : ∃ y, b[n + 2]? = some y := ⟨_, List.getElem?_eq_getElem (by omega)⟩
         have hyr1 := hB y1 (List.mem_of_getElem? hy1)
         have hs5 : (((b.drop (n + 1)).take ((n + sz) - (n + 1))).drop 1)[0]? = some y1 := drop_get (sub_get (i := 1) hy1 (by omega))
         refine LP rfl rfl rfl (xix 0 un22 sz5 (RdE.drop (RdE.sub' hb (by first | omega | (simp only [List.length_append, List.length_take, List.length_drop, List.length_cons, List.length_nil, List.length_set, List.length_replicate, maxLen]; omega))) (by first | omega | (simp only [List.length_append, List.length_take, List.length_drop, List.length_cons, List.length_nil, List.length_set, List.length_replicate, maxLen]; omega))).sh rfl rfl (by omega) (by first | omega | (simp only [List.length_append, List.length_take, List.length_drop, List.length_cons, List.length_nil, List.length_set, List.length_replicate, maxLen]; omega))) ?_
         have le41 : Le w w10 := (hq6.le (le5.trans (hl4.trans (Le.drew w9))) (inc (Nat.le_trans hl1.size hl2.size) hb6z inn))
         refine LS rfl rfl rfl (fun w' hw' => (xle1 sc5 (RdE.drop (RdE.sub' (RdE.le (le41.trans hw') hb) (by first | omega | (simp only [List.length_append, List.length_take, List.length_drop, List.length_cons, List.length_nil, List.length_set, List.length_replicate, maxLen]; omega))) (by first | omega | (simp only [List.length_append, List.length_take, List.length_drop, List.length_cons, List.length_nil, List.length_set, List.length_replicate, maxLen]; omega))) hs5 rfl rfl)) ?_
         refine LP rfl rfl rfl (xcvn un5 un72 (IntWalk.u16_in _ (by omega)) rfl) ?_
         refine LP rfl rfl rfl (xmv rfl) ?_
         obtain ⟨y2, hy2⟩ : ∃ y, b[n + 3]? = some y := ⟨_, List.getElem?_eq_getElem (by omega)⟩
         have hyr2 := hB y2 (List.mem_of_getElem? hy2)
         have hs6 : (((b.drop (n + 1)).take ((n + sz) - (n + 1))).drop 1)[1]? = some y2 := drop_get (sub_get (i := 2) hy2 (by omega))
         refine LP rfl rfl rfl (xix 1 un22 sz5 (RdE.drop (RdE.sub' hb (by first | omega | (simp only [List.length_append, List.length_take, List.length_drop, List.length_cons, List.length_nil, List.length_set, List.length_replicate, maxLen]; omega))) (by first | omega | (simp only [List.length_append, List.length_take, List.length_drop, List.length_cons, List.length_nil, List.length_set, List.length_replicate, maxLen]; omega))).sh rfl rfl (by omega) (by first | omega | (simp only [List.length_append, List.length_take, List.length_drop, List.length_cons, List.length_nil, List.length_set, List.length_replicate, maxLen]; omega))) ?_
         refine LS rfl rfl rfl (fun w' hw' => (xle1 sc5 (RdE.drop (RdE.sub' (RdE.le (le41.trans hw') hb) (by first | omega | (simp only [List.length_append, List.length_take, List.length_drop, List.length_cons, List.length_nil, List.length_set, List.length_replicate, maxLen]; omega))) (by first | omega | (simp only [List.length_append, List.length_take, List.length_drop, List.length_cons, List.length_nil, List.length_set, List.length_replicate, maxLen]; omega))) hs6 rfl rfl)) ?_
         refine LP rfl rfl rfl (xcvn un5 un72 (IntWalk.u16_in _ (by omega)) rfl) ?_
         refine LP rfl rfl rfl (xshl rfl rfl (by omega)) ?_
         refine LP rfl rfl rfl (xor rfl rfl) ?_
         refine LP rfl rfl rfl (xcv un72 un70 rfl) ?_
         refine LP rfl rfl rfl (xcv un70 un2 rfl) ?_
         refine LP rfl rfl rfl (xfa fa145_4 rfl) ?_
         refine LUt rfl rfl (xsb sz2 (Le.bk (Le.drew w10) hb8) rfl rfl (int_cells _ _) rfl rfl (al_cons rfl al_nil)) ?_
         rintro w23 ⟨hq16, hb18⟩
         dsimp only [put] at hb18
         refine LZ ?_
         refine F_block ?_
         refine F_seq ?_
         refine W_seq ?_
         refine W_seq ?_
         refine W_reg (.one 0 (.one 1 (.pure 2 .nil))) rfl ?_
         refine LX rfl rfl rfl (xlb5 ag145 hb18 rfl rfl rfl rfl rfl rfl) trivial ?_
         refine LF rfl rfl rfl has155 rfl (c_index (x := ((n : Int), x, y0, 0, (IntKind.wrap .i64 (IntKind.wrap .i16 (bitI .or .u16 y1 (shlI .u16 y2 (8 : Int)))))))) ?_
         rintro _ w24 ⟨rfl, hl8⟩
         refine ⟨trivial, ?_⟩
         refine LP rfl rfl rfl (xnot rfl) ?_
         refine LZ ?_
         refine F_seq ?_
         refine W_cond rfl (fun c17 => ?_) (fun c17 => ?_)
         · -- c17 yes
          try simp only [Bool.not_eq_true', Bool.not_eq_false', decide_eq_true_eq, decide_eq_false_iff_not] at c17
          refine W_seq ?_
          refine W_reg (.pure 0 (.one 1 (.pure 2 (.pure 3 .nil)))) rfl ?_
          refine LP rfl rfl rfl (xbd rfl (bd145_ ())) ?_
          have le42 : Le w1 w8 := (hq5.le (hl2.trans hl3) (inc hl2.size hb6z inn))
          have le43 : Le w1 w10 := (hq6.le (le42.trans (hl4.trans (Le.drew w9))) (inc hl2.size hb6z inn))
          have le44 : Le w1 w23 := (hq16.le (le43.trans (Le.drew w10)) (inc hl2.size hb6z inn))
          refine LU rfl rfl (xsb sz145 (Le.bk (le44.trans hl8) hb1) rfl rfl (agg_cells _) rfl rfl (al_cons rfl (al_cons rfl (al_cons rfl (al_cons rfl (al_cons rfl al_nil)))))) ?_
          rintro w25 ⟨hq17, hb19⟩
          dsimp only [put] at hb19
          have hk7 := hq17.bk (ni_new hb6z (Nat.lt_of_lt_of_le (bk_lt hb1) hl2.size) ni_nil) (Le.bk hl8 hb18)
          refine ⟨trivial, ?_⟩
          refine LP rfl rfl rfl (xas rfl) ?_
          refine LP rfl rfl rfl (xas rfl) ?_
          refine LZ ?_
          refine F_seq ?_
          refine W_ret ?_
          refine F_ret_then ?_
          have hrd : readR b n x = ((n : Int), x, y0, 0, (IntKind.wrap .i64 (IntKind.wrap .i16 (bitI .or .u16 y1 (shlI .u16 y2 (8 : Int)))))) := by simp [readR, immR, placeB, placeI, getD_of, short_u16, short_i16, first1, two1, wide1, *]
          rw [← hrd] at c17
          rw [badX_read hB] at c17
          have e := (one_at hx).trans ((if_neg (by omega)).trans (if_pos (by simpa using c17)))
          have le45 : Le w w23 := (hq16.le (le41.trans (Le.drew w10)) (inc (Nat.le_trans hl1.size hl2.size) hb6z inn))
          have le46 : Le w w25 := (hq17.le (le45.trans hl8) (inc (Nat.le_refl _) hb1z inn))
          exact F_endR (rs := [.cell 4 145, .tmp 5, .tmp 6]) rfl (.cell rfl (run_ld0 ag145 hb19 rfl) (.tmp rfl (.tmp rfl .nil))) rfl ⟨_, rfl, by rw [e]; rfl, le46⟩
         · -- c17 no
          try simp only [Bool.not_eq_true', Bool.not_eq_false', decide_eq_true_eq, decide_eq_false_iff_not] at c17
          refine W_skip ?_
          refine F_seq ?_
          refine W_seq ?_
          refine W_reg (.one 0 (.pure 1 (.pure 2 (.pure 3 (.one 4 (.pure 5 (.pure 6 .nil))))))) rfl ?_
          refine LX rfl rfl rfl (xlb5 ag145 (Le.bk hl8 hb18) rfl rfl rfl rfl rfl rfl) trivial ?_
          refine LP rfl rfl rfl (xmv rfl) ?_
          refine LP rfl rfl rfl (xmv rfl) ?_
          refine LP rfl rfl rfl (xaddn rfl rfl (by omega)) ?_
          have le47 : Le w1 w8 := (hq5.le (hl2.trans hl3) (inc hl2.size hb6z inn))
          have le48 : Le w1 w10 := (hq6.le (le47.trans (hl4.trans (Le.drew w9))) (inc hl2.size hb6z inn))
          have le49 : Le w1 w23 := (hq16.le (le48.trans (Le.drew w10)) (inc hl2.size hb6z inn))
          refine LU rfl rfl (xsb sz145 (Le.bk (le49.trans hl8) hb1) rfl rfl (agg_cells [.int .i64 ((n : Int), x, y0, 0, (IntKind.wrap .i64 (IntKind.wrap .i16 (bitI .or .u16 y1 (shlI .u16 y2 (8 : Int)))))).1, .int .i64 ((n : Int), x, y0, 0, (IntKind.wrap .i64 (IntKind.wrap .i16 (bitI .or .u16 y1 (shlI .u16 y2 (8 : Int)))))).2.1, .int .i64 ((n : Int), x, y0, 0, (IntKind.wrap .i64 (IntKind.wrap .i16 (bitI .or .u16 y1 (shlI .u16 y2 (8 : Int)))))).2.2.1, .int .i64 ((n : Int), x, y0, 0, (IntKind.wrap .i64 (IntKind.wrap .i16 (bitI .or .u16 y1 (shlI .u16 y2 (8 : Int)))))).2.2.2.1, .int .i64 ((n : Int), x, y0, 0, (IntKind.wrap .i64 (IntKind.wrap .i16 (bitI .or .u16 y1 (shlI .u16 y2 (8 : Int)))))).2.2.2.2]) rfl rfl (al_cons rfl (al_cons rfl (al_cons rfl (al_cons rfl (al_cons rfl al_nil)))))) ?_
          rintro w26 ⟨hq18, hb20⟩
          dsimp only [put] at hb20
          have hk8 := hq18.bk (ni_new hb6z (Nat.lt_of_lt_of_le (bk_lt hb1) hl2.size) ni_nil) (Le.bk hl8 hb18)
          refine ⟨trivial, ?_⟩
          refine LP rfl rfl rfl (xas rfl) ?_
          refine LP rfl rfl rfl (xas rfl) ?_
          refine LZ ?_
          refine F_seq ?_
          refine W_ret ?_
          have hrd : readR b n x = ((n : Int), x, y0, 0, (IntKind.wrap .i64 (IntKind.wrap .i16 (bitI .or .u16 y1 (shlI .u16 y2 (8 : Int)))))) := by simp [readR, immR, placeB, placeI, getD_of, short_u16, short_i16, first1, two1, wide1, *]
          rw [← hrd] at c17
          rw [badX_read hB] at c17
          have e0 := (one_at hx).trans ((if_neg (by omega)).trans (if_neg (by simpa using c17)))
          rw [hrd] at e0
          have e := e0
          have le50 : Le w w23 := (hq16.le (le41.trans (Le.drew w10)) (inc (Nat.le_trans hl1.size hl2.size) hb6z inn))
          have le51 : Le w w26 := (hq18.le (le50.trans hl8) (inc (Nat.le_refl _) hb1z inn))
          exact F_endR (rs := [.cell 4 145, .tmp 5, .tmp 6]) rfl (.cell rfl (run_ld0 ag145 hb20 rfl) (.tmp rfl (.tmp rfl .nil))) rfl ⟨_, rfl, by rw [e]; rfl, le51⟩
        · -- c16 no
         try simp only [Bool.not_eq_true', Bool.not_eq_false', decide_eq_true_eq, decide_eq_false_iff_not] at c16
         have hh : x ≠ 1 := mt hF.h.2 (by simpa using c16)
         refine W_seq ?_
         refine W_reg (.pure 0 (.pure 1 (.pure 2 (.pure 3 .nil)))) rfl ?_
         refine LP rfl rfl rfl (xmv rfl) ?_
         refine LP rfl rfl rfl (xand rfl rfl) ?_
         refine LP rfl rfl rfl (xneq rfl rfl) ?_
         refine LP rfl rfl rfl (xas rfl) ?_
         refine LZ ?_
         refine F_seq ?_
         refine W_cond rfl (fun c18 => ?_) (fun c18 => ?_)
         · -- c18 yes
          try simp only [Bool.not_eq_true', Bool.not_eq_false', decide_eq_true_eq, decide_eq_false_iff_not] at c18
          have hj : x = 22 ∨ x = 23 := hF.j.1 (by simpa using c18)
          have hw2 : wideR x = 2 := wide_two hj
          refine W_draw (.pure 0 (.pure 1 (.still 2 (.pure 3 (.pure 4 (.pure 5 (.still 6 (.pure 7 (.pure 8 (.pure 9 (.pure 10 (.pure 11 (.tail 12 .nil))))))))))))) (Le w10) hfol (by kernel_rfl) (pkb (pkt pkB)) (Le.drew _) ?_
          refine LP rfl rfl rfl (xmv rfl) ?_
          obtain ⟨y1, hy1⟩ : ∃ y, b[n + 2]? = some y := ⟨_, List.getElem?_eq_getElem (by omega)⟩
          have hyr1 := hB y1 (List.mem_of_getElem? hy1)
          have hs7 : (((b.drop (n + 1)).take ((n + sz) - (n + 1))).drop 1)[0]? = some y1 := drop_get (sub_get (i := 1) hy1 (by omega))
          refine LP rfl rfl rfl (xix 0 un22 sz5 (RdE.drop (RdE.sub' hb (by first | omega | (simp only [List.length_append, List.length_take, List.length_drop, List.length_cons, List.length_nil, List.length_set, List.length_replicate, maxLen]; omega))) (by first | omega | (simp only [List.length_append, List.length_take, List.length_drop, List.length_cons, List.length_nil, List.length_set, List.length_replicate, maxLen]; omega))).sh rfl rfl (by omega) (by first | omega | (simp only [List.length_append, List.length_take, List.length_drop, List.length_cons, List.length_nil, List.length_set, List.length_replicate, maxLen]; omega))) ?_
          have le52 : Le w w10 := (hq6.le (le5.trans (hl4.trans (Le.drew w9))) (inc (Nat.le_trans hl1.size hl2.size) hb6z inn))
          refine LS rfl rfl rfl (fun w' hw' => (xle1 sc5 (RdE.drop (RdE.sub' (RdE.le (le52.trans hw') hb) (by first | omega | (simp only [List.length_append, List.length_take, List.length_drop, List.length_cons, List.length_nil, List.length_set, List.length_replicate, maxLen]; omega))) (by first | omega | (simp only [List.length_append, List.length_take, List.length_drop, List.length_cons, List.length_nil, List.length_set, List.length_replicate, maxLen]; omega))) hs7 rfl rfl)) ?_
          refine LP rfl rfl rfl (xcvn un5 un72 (IntWalk.u16_in _ (by omega)) rfl) ?_
          refine LP rfl rfl rfl (xmv rfl) ?_
          obtain ⟨y2, hy2⟩ : ∃ y, b[n + 3]? = some y := ⟨_, List.getElem?_eq_getElem (by omega)⟩
          have hyr2 := hB y2 (List.mem_of_getElem? hy2)
          have hs8 : (((b.drop (n + 1)).take ((n + sz) - (n + 1))).drop 1)[1]? = some y2 := drop_get (sub_get (i := 2) hy2 (by omega))
          refine LP rfl rfl rfl (xix 1 un22 sz5 (RdE.drop (RdE.sub' hb (by first | omega | (simp only [List.length_append, List.length_take, List.length_drop, List.length_cons, List.length_nil, List.length_set, List.length_replicate, maxLen]; omega))) (by first | omega | (simp only [List.length_append, List.length_take, List.length_drop, List.length_cons, List.length_nil, List.length_set, List.length_replicate, maxLen]; omega))).sh rfl rfl (by omega) (by first | omega | (simp only [List.length_append, List.length_take, List.length_drop, List.length_cons, List.length_nil, List.length_set, List.length_replicate, maxLen]; omega))) ?_
          refine LS rfl rfl rfl (fun w' hw' => (xle1 sc5 (RdE.drop (RdE.sub' (RdE.le (le52.trans hw') hb) (by first | omega | (simp only [List.length_append, List.length_take, List.length_drop, List.length_cons, List.length_nil, List.length_set, List.length_replicate, maxLen]; omega))) (by first | omega | (simp only [List.length_append, List.length_take, List.length_drop, List.length_cons, List.length_nil, List.length_set, List.length_replicate, maxLen]; omega))) hs8 rfl rfl)) ?_
          refine LP rfl rfl rfl (xcvn un5 un72 (IntWalk.u16_in _ (by omega)) rfl) ?_
          refine LP rfl rfl rfl (xshl rfl rfl (by omega)) ?_
          refine LP rfl rfl rfl (xor rfl rfl) ?_
          refine LP rfl rfl rfl (xcv un72 un2 rfl) ?_
          refine LP rfl rfl rfl (xfa fa145_4 rfl) ?_
          refine LUt rfl rfl (xsb sz2 (Le.bk (Le.drew w10) hb8) rfl rfl (int_cells _ _) rfl rfl (al_cons rfl al_nil)) ?_
          rintro w27 ⟨hq19, hb21⟩
          dsimp only [put] at hb21
          refine LZ ?_
          refine F_block ?_
          refine F_seq ?_
          refine W_seq ?_
          refine W_seq ?_
          refine W_reg (.one 0 (.one 1 (.pure 2 .nil))) rfl ?_
          refine LX rfl rfl rfl (xlb5 ag145 hb21 rfl rfl rfl rfl rfl rfl) trivial ?_
          refine LF rfl rfl rfl has155 rfl (c_index (x := ((n : Int), x, y0, 0, (IntKind.wrap .i64 (bitI .or .u16 y1 (shlI .u16 y2 (8 : Int))))))) ?_
          rintro _ w28 ⟨rfl, hl9⟩
          refine ⟨trivial, ?_⟩
          refine LP rfl rfl rfl (xnot rfl) ?_
          refine LZ ?_
          refine F_seq ?_
          refine W_cond rfl (fun c19 => ?_) (fun c19 => ?_)
          · -- c19 yes
           try simp only [Bool.not_eq_true', Bool.not_eq_false', decide_eq_true_eq, decide_eq_false_iff_not] at c19
           refine W_seq ?_
           refine W_reg (.pure 0 (.one 1 (.pure 2 (.pure 3 .nil)))) rfl ?_
           refine LP rfl rfl rfl (xbd rfl (bd145_ ())) ?_
           have le53 : Le w1 w8 := (hq5.le (hl2.trans hl3) (inc hl2.size hb6z inn))
           have le54 : Le w1 w10 := (hq6.le (le53.trans (hl4.trans (Le.drew w9))) (inc hl2.size hb6z inn))
           have le55 : Le w1 w27 := (hq19.le (le54.trans (Le.drew w10)) (inc hl2.size hb6z inn))
           refine LU rfl rfl (xsb sz145 (Le.bk (le55.trans hl9) hb1) rfl rfl (agg_cells _) rfl rfl (al_cons rfl (al_cons rfl (al_cons rfl (al_cons rfl (al_cons rfl al_nil)))))) ?_
           rintro w29 ⟨hq20, hb22⟩
           dsimp only [put] at hb22
           have hk9 := hq20.bk (ni_new hb6z (Nat.lt_of_lt_of_le (bk_lt hb1) hl2.size) ni_nil) (Le.bk hl9 hb21)
           refine ⟨trivial, ?_⟩
           refine LP rfl rfl rfl (xas rfl) ?_
           refine LP rfl rfl rfl (xas rfl) ?_
           refine LZ ?_
           refine F_seq ?_
           refine W_ret ?_
           refine F_ret_then ?_
           have hrd : readR b n x = ((n : Int), x, y0, 0, (IntKind.wrap .i64 (bitI .or .u16 y1 (shlI .u16 y2 (8 : Int))))) := by simp [readR, immR, placeB, placeI, getD_of, short_u16, short_i16, first1, two1, wide1, *]
           rw [← hrd] at c19
           rw [badX_read hB] at c19
           have e := (one_at hx).trans ((if_neg (by omega)).trans (if_pos (by simpa using c19)))
           have le56 : Le w w27 := (hq19.le (le52.trans (Le.drew w10)) (inc (Nat.le_trans hl1.size hl2.size) hb6z inn))
           have le57 : Le w w29 := (hq20.le (le56.trans hl9) (inc (Nat.le_refl _) hb1z inn))
           exact F_endR (rs := [.cell 4 145, .tmp 5, .tmp 6]) rfl (.cell rfl (run_ld0 ag145 hb22 rfl) (.tmp rfl (.tmp rfl .nil))) rfl ⟨_, rfl, by rw [e]; rfl, le57⟩
          · -- c19 no
           try simp only [Bool.not_eq_true', Bool.not_eq_false', decide_eq_true_eq, decide_eq_false_iff_not] at c19
           refine W_skip ?_
           refine F_seq ?_
           refine W_seq ?_
           refine W_reg (.one 0 (.pure 1 (.pure 2 (.pure 3 (.one 4 (.pure 5 (.pure 6 .nil))))))) rfl ?_
           refine LX rfl rfl rfl (xlb5 ag145 (Le.bk hl9 hb21) rfl rfl rfl rfl rfl rfl) trivial ?_
           refine LP rfl rfl rfl (xmv rfl) ?_
           refine LP rfl rfl rfl (xmv rfl) ?_
           refine LP rfl rfl rfl (xaddn rfl rfl (by omega)) ?_
           have le58 : Le w1 w8 := (hq5.le (hl2.trans hl3) (inc hl2.size hb6z inn))
           have le59 : Le w1 w10 := (hq6.le (le58.trans (hl4.trans (Le.drew w9))) (inc hl2.size hb6z inn))
           have le60 : Le w1 w27 := (hq19.le (le59.trans (Le.drew w10)) (inc hl2.size hb6z inn))
           refine LU rfl rfl (xsb sz145 (Le.bk (le60.trans hl9) hb1) rfl rfl (agg_cells [.int .i64 ((n : Int), x, y0, 0, (IntKind.wrap .i64 (bitI .or .u16 y1 (shlI .u16 y2 (8 : Int))))).1, .int .i64 ((n : Int), x, y0, 0, (IntKind.wrap .i64 (bitI .or .u16 y1 (shlI .u16 y2 (8 : Int))))).2.1, .int .i64 ((n : Int), x, y0, 0, (IntKind.wrap .i64 (bitI .or .u16 y1 (shlI .u16 y2 (8 : Int))))).2.2.1, .int .i64 ((n : Int), x, y0, 0, (IntKind.wrap .i64 (bitI .or .u16 y1 (shlI .u16 y2 (8 : Int))))).2.2.2.1, .int .i64 ((n : Int), x, y0, 0, (IntKind.wrap .i64 (bitI .or .u16 y1 (shlI .u16 y2 (8 : Int))))).2.2.2.2]) rfl rfl (al_cons rfl (al_cons rfl (al_cons rfl (al_cons rfl (al_cons rfl al_nil)))))) ?_
           rintro w30 ⟨hq21, hb23⟩
           dsimp only [put] at hb23
           have hk10 := hq21.bk (ni_new hb6z (Nat.lt_of_lt_of_le (bk_lt hb1) hl2.size) ni_nil) (Le.bk hl9 hb21)
           refine ⟨trivial, ?_⟩
           refine LP rfl rfl rfl (xas rfl) ?_
           refine LP rfl rfl rfl (xas rfl) ?_
           refine LZ ?_
           refine F_seq ?_
           refine W_ret ?_
           have hrd : readR b n x = ((n : Int), x, y0, 0, (IntKind.wrap .i64 (bitI .or .u16 y1 (shlI .u16 y2 (8 : Int))))) := by simp [readR, immR, placeB, placeI, getD_of, short_u16, short_i16, first1, two1, wide1, *]
           rw [← hrd] at c19
           rw [badX_read hB] at c19
           have e0 := (one_at hx).trans ((if_neg (by omega)).trans (if_neg (by simpa using c19)))
           rw [hrd] at e0
           have e := e0
           have le61 : Le w w27 := (hq19.le (le52.trans (Le.drew w10)) (inc (Nat.le_trans hl1.size hl2.size) hb6z inn))
           have le62 : Le w w30 := (hq21.le (le61.trans hl9) (inc (Nat.le_refl _) hb1z inn))
           exact F_endR (rs := [.cell 4 145, .tmp 5, .tmp 6]) rfl (.cell rfl (run_ld0 ag145 hb23 rfl) (.tmp rfl (.tmp rfl .nil))) rfl ⟨_, rfl, by rw [e]; rfl, le62⟩
         · -- c18 no
          try simp only [Bool.not_eq_true', Bool.not_eq_false', decide_eq_true_eq, decide_eq_false_iff_not] at c18
          have hj : ¬ (x = 22 ∨ x = 23) := mt hF.j.2 (by simpa using c18)
          have hw2 : wideR x = 0 := wide_zero hok hy hh hj
          refine W_skip ?_
          refine F_block ?_
          refine F_seq ?_
          refine W_seq ?_
          refine W_seq ?_
          refine W_reg (.one 0 (.one 1 (.pure 2 .nil))) rfl ?_
          refine LX rfl rfl rfl (xlb5 ag145 hb8 rfl rfl rfl rfl rfl rfl) trivial ?_
          refine LF rfl rfl rfl has155 rfl (c_index (x := ((n : Int), x, y0, 0, 0))) ?_
          rintro _ w31 ⟨rfl, hl10⟩
          refine ⟨trivial, ?_⟩
          refine LP rfl rfl rfl (xnot rfl) ?_
          refine LZ ?_
          refine F_seq ?_
          refine W_cond rfl (fun c20 => ?_) (fun c20 => ?_)
          · -- c20 yes
           try simp only [Bool.not_eq_true', Bool.not_eq_false', decide_eq_true_eq, decide_eq_false_iff_not] at c20
           refine W_seq ?_
           refine W_reg (.pure 0 (.one 1 (.pure 2 (.pure 3 .nil)))) rfl ?_
           refine LP rfl rfl rfl (xbd rfl (bd145_ ())) ?_
           have le63 : Le w1 w8 := (hq5.le (hl2.trans hl3) (inc hl2.size hb6z inn))
           have le64 : Le w1 w10 := (hq6.le (le63.trans (hl4.trans (Le.drew w9))) (inc hl2.size hb6z inn))
           refine LU rfl rfl (xsb sz145 (Le.bk (le64.trans hl10) hb1) rfl rfl (agg_cells _) rfl rfl (al_cons rfl (al_cons rfl (al_cons rfl (al_cons rfl (al_cons rfl al_nil)))))) ?_
           rintro w32 ⟨hq22, hb24⟩
           dsimp only [put] at hb24
           have hk11 := hq22.bk (ni_new hb6z (Nat.lt_of_lt_of_le (bk_lt hb1) hl2.size) ni_nil) (Le.bk hl10 hb8)
           refine ⟨trivial, ?_⟩
           refine LP rfl rfl rfl (xas rfl) ?_
           refine LP rfl rfl rfl (xas rfl) ?_
           refine LZ ?_
           refine F_seq ?_
           refine W_ret ?_
           refine F_ret_then ?_
           have hrd : readR b n x = ((n : Int), x, y0, 0, 0) := by simp [readR, immR, placeB, placeI, getD_of, short_u16, short_i16, first1, two1, wide1, *]
           rw [← hrd] at c20
           rw [badX_read hB] at c20
           have e := (one_at hx).trans ((if_neg (by omega)).trans (if_pos (by simpa using c20)))
           have le65 : Le w w10 := (hq6.le (le5.trans (hl4.trans (Le.drew w9))) (inc (Nat.le_trans hl1.size hl2.size) hb6z inn))
           have le66 : Le w w32 := (hq22.le (le65.trans hl10) (inc (Nat.le_refl _) hb1z inn))
           exact F_endR (rs := [.cell 4 145, .tmp 5, .tmp 6]) rfl (.cell rfl (run_ld0 ag145 hb24 rfl) (.tmp rfl (.tmp rfl .nil))) rfl ⟨_, rfl, by rw [e]; rfl, le66⟩
          · -- c20 no
           try simp only [Bool.not_eq_true', Bool.not_eq_false', decide_eq_true_eq, decide_eq_false_iff_not] at c20
           refine W_skip ?_
           refine F_seq ?_
           refine W_seq ?_
           refine W_reg (.one 0 (.pure 1 (.pure 2 (.pure 3 (.one 4 (.pure 5 (.pure 6 .nil))))))) rfl ?_
           refine LX rfl rfl rfl (xlb5 ag145 (Le.bk hl10 hb8) rfl rfl rfl rfl rfl rfl) trivial ?_
           refine LP rfl rfl rfl (xmv rfl) ?_
           refine LP rfl rfl rfl (xmv rfl) ?_
           refine LP rfl rfl rfl (xaddn rfl rfl (by omega)) ?_
           have le67 : Le w1 w8 := (hq5.le (hl2.trans hl3) (inc hl2.size hb6z inn))
           have le68 : Le w1 w10 := (hq6.le (le67.trans (hl4.trans (Le.drew w9))) (inc hl2.size hb6z inn))
           refine LU rfl rfl (xsb sz145 (Le.bk (le68.trans hl10) hb1) rfl rfl (agg_cells [.int .i64 ((n : Int), x, y0, 0, 0).1, .int .i64 ((n : Int), x, y0, 0, 0).2.1, .int .i64 ((n : Int), x, y0, 0, 0).2.2.1, .int .i64 ((n : Int), x, y0, 0, 0).2.2.2.1, .int .i64 ((n : Int), x, y0, 0, 0).2.2.2.2]) rfl rfl (al_cons rfl (al_cons rfl (al_cons rfl (al_cons rfl (al_cons rfl al_nil)))))) ?_
           rintro w33 ⟨hq23, hb25⟩
           dsimp only [put] at hb25
           have hk12 := hq23.bk (ni_new hb6z (Nat.lt_of_lt_of_le (bk_lt hb1) hl2.size) ni_nil) (Le.bk hl10 hb8)
           refine ⟨trivial, ?_⟩
           refine LP rfl rfl rfl (xas rfl) ?_
           refine LP rfl rfl rfl (xas rfl) ?_
           refine LZ ?_
           refine F_seq ?_
           refine W_ret ?_
           have hrd : readR b n x = ((n : Int), x, y0, 0, 0) := by simp [readR, immR, placeB, placeI, getD_of, short_u16, short_i16, first1, two1, wide1, *]
           rw [← hrd] at c20
           rw [badX_read hB] at c20
           have e0 := (one_at hx).trans ((if_neg (by omega)).trans (if_neg (by simpa using c20)))
           rw [hrd] at e0
           have e := e0
           have le69 : Le w w10 := (hq6.le (le5.trans (hl4.trans (Le.drew w9))) (inc (Nat.le_trans hl1.size hl2.size) hb6z inn))
           have le70 : Le w w33 := (hq23.le (le69.trans hl10) (inc (Nat.le_refl _) hb1z inn))
           exact F_endR (rs := [.cell 4 145, .tmp 5, .tmp 6]) rfl (.cell rfl (run_ld0 ag145 hb25 rfl) (.tmp rfl (.tmp rfl .nil))) rfl ⟨_, rfl, by rw [e]; rfl, le70⟩
     · -- c7 no
      try simp only [Bool.not_eq_true', Bool.not_eq_false', decide_eq_true_eq, decide_eq_false_iff_not] at c7
      have ha : firstR x = false := by simpa using mt hF.a.2 (by simpa using c7)
      simp only [ha, Bool.false_eq_true, if_false] at hsum
      refine W_skip ?_
      refine F_seq ?_
      refine W_seq ?_
      refine W_seq ?_
      refine W_reg (.pure 0 (.pure 1 (.pure 2 .nil))) rfl ?_
      refine LP rfl rfl rfl (xmv rfl) ?_
      refine LP rfl rfl rfl (xand rfl rfl) ?_
      refine LP rfl rfl rfl (xneq rfl rfl) ?_
      refine LZ ?_
      refine F_seq ?_
      refine W_cond rfl (fun c21 => ?_) (fun c21 => ?_)
      · -- c21 yes
       try simp only [Bool.not_eq_true', Bool.not_eq_false', decide_eq_true_eq, decide_eq_false_iff_not] at c21
       have hb2 : twoR x = true := hF.b.1 (by simpa using c21)
       simp only [hb2, if_true] at hsum
       exact absurd (two_first hb2) (by rw [ha]; decide)
      · -- c21 no
       try simp only [Bool.not_eq_true', Bool.not_eq_false', decide_eq_true_eq, decide_eq_false_iff_not] at c21
       have hb2 : twoR x = false := by simpa using mt hF.b.2 (by simpa using c21)
       simp only [hb2, Bool.false_eq_true, if_false] at hsum
       refine W_skip ?_
       refine F_seq ?_
       refine W_seq ?_
       refine W_block ?_
       refine W_seq ?_
       refine W_reg (.pure 0 (.pure 1 (.pure 2 (.pure 3 .nil)))) rfl ?_
       refine LP rfl rfl rfl (xmv rfl) ?_
       refine LP rfl rfl rfl (xand rfl rfl) ?_
       refine LP rfl rfl rfl (xneq rfl rfl) ?_
       refine LP rfl rfl rfl (xas rfl) ?_
       refine LZ ?_
       refine F_seq ?_
       refine W_cond rfl (fun c22 => ?_) (fun c22 => ?_)
       · -- c22 yes
        try simp only [Bool.not_eq_true', Bool.not_eq_false', decide_eq_true_eq, decide_eq_false_iff_not] at c22
        have hy : wideR x = 1 := hF.y.1 (by simpa using c22)
        refine W_reg (.pure 0 (.pure 1 (.one 2 (.pure 3 (.pure 4 (.one 5 .nil)))))) rfl ?_
        refine LP rfl rfl rfl (xmv rfl) ?_
        obtain ⟨y0, hy0⟩ : ∃ y, b[n + 1]? = some y := ⟨_, List.getElem?_eq_getElem (by omega)⟩
        have hyr0 := hB y0 (List.mem_of_getElem? hy0)
        have hs9 : ((b.drop (n + 1)).take ((n + sz) - (n + 1)))[0]? = some y0 := sub_get (i := 0) hy0 (by omega)
        refine LP rfl rfl rfl (xix 0 un22 sz5 (RdE.sub' hb (by first | omega | (simp only [List.length_append, List.length_take, List.length_drop, List.length_cons, List.length_nil, List.length_set, List.length_replicate, maxLen]; omega))).sh rfl rfl (by omega) (by first | omega | (simp only [List.length_append, List.length_take, List.length_drop, List.length_cons, List.length_nil, List.length_set, List.length_replicate, maxLen]; omega))) ?_
        have le71 : Le w w8 := (hq5.le (hl1.trans (hl2.trans hl3)) (inc (Nat.le_trans hl1.size hl2.size) hb6z inn))
        refine LX rfl rfl rfl (xle1 sc5 (RdE.sub' (RdE.le (le71.trans hl4) hb) (by first | omega | (simp only [List.length_append, List.length_take, List.length_drop, List.length_cons, List.length_nil, List.length_set, List.length_replicate, maxLen]; omega))) hs9 rfl rfl) trivial ?_
        refine LP rfl rfl rfl (xcvn un5 un2 (IntWalk.i64_in _ (by omega)) rfl) ?_
        refine LP rfl rfl rfl (xfa fa145_4 rfl) ?_
        refine LU rfl rfl (xsb sz2 (Le.bk hl4 hb7) rfl rfl (int_cells _ _) rfl rfl (al_cons rfl al_nil)) ?_
        rintro w34 ⟨hq24, hb26⟩
        dsimp only [put] at hb26
        refine ⟨trivial, ?_⟩
        refine LZ ?_
        refine F_block ?_
        refine F_seq ?_
        refine W_seq ?_
        refine W_seq ?_
        refine W_reg (.one 0 (.one 1 (.pure 2 .nil))) rfl ?_
        refine LX rfl rfl rfl (xlb5 ag145 hb26 rfl rfl rfl rfl rfl rfl) trivial ?_
        refine LF rfl rfl rfl has155 rfl (c_index (x := ((n : Int), x, 0, 0, y0))) ?_
        rintro _ w35 ⟨rfl, hl11⟩
        refine ⟨trivial, ?_⟩
        refine LP rfl rfl rfl (xnot rfl) ?_
        refine LZ ?_
        refine F_seq ?_
        refine W_cond rfl (fun c23 => ?_) (fun c23 => ?_)
        · -- c23 yes
         try simp only [Bool.not_eq_true', Bool.not_eq_false', decide_eq_true_eq, decide_eq_false_iff_not] at c23
         refine W_seq ?_
         refine W_reg (.pure 0 (.one 1 (.pure 2 (.pure 3 .nil)))) rfl ?_
         refine LP rfl rfl rfl (xbd rfl (bd145_ ())) ?_
         have le72 : Le w1 w8 := (hq5.le (hl2.trans hl3) (inc hl2.size hb6z inn))
         have le73 : Le w1 w34 := (hq24.le (le72.trans hl4) (inc hl2.size hb6z inn))
         refine LU rfl rfl (xsb sz145 (Le.bk (le73.trans hl11) hb1) rfl rfl (agg_cells _) rfl rfl (al_cons rfl (al_cons rfl (al_cons rfl (al_cons rfl (al_cons rfl al_nil)))))) ?_
         rintro w36 ⟨hq25, hb27⟩
         dsimp only [put] at hb27
         have hk13 := hq25.bk (ni_new hb6z (Nat.lt_of_lt_of_le (bk_lt hb1) hl2.size) ni_nil) (Le.bk hl11 hb26)
         refine ⟨trivial, ?_⟩
         refine LP rfl rfl rfl (xas rfl) ?_
         refine LP rfl rfl rfl (xas rfl) ?_
         refine LZ ?_
         refine F_seq ?_
         refine W_ret ?_
         refine F_ret_then ?_
         have hrd : readR b n x = ((n : Int), x, 0, 0, y0) := by simp [readR, immR, placeB, placeI, getD_of, short_u16, short_i16, first1, two1, wide1, *]
         rw [← hrd] at c23
         rw [badX_read hB] at c23
         have e := (one_at hx).trans ((if_neg (by omega)).trans (if_pos (by simpa using c23)))
         have le74 : Le w w34 := (hq24.le (le71.trans hl4) (inc (Nat.le_trans hl1.size hl2.size) hb6z inn))
         have le75 : Le w w36 := (hq25.le (le74.trans hl11) (inc (Nat.le_refl _) hb1z inn))
         exact F_endR (rs := [.cell 4 145, .tmp 5, .tmp 6]) rfl (.cell rfl (run_ld0 ag145 hb27 rfl) (.tmp rfl (.tmp rfl .nil))) rfl ⟨_, rfl, by rw [e]; rfl, le75⟩
        · -- c23 no
         try simp only [Bool.not_eq_true', Bool.not_eq_false', decide_eq_true_eq, decide_eq_false_iff_not] at c23
         refine W_skip ?_
         refine F_seq ?_
         refine W_seq ?_
         refine W_reg (.one 0 (.pure 1 (.pure 2 (.pure 3 (.one 4 (.pure 5 (.pure 6 .nil))))))) rfl ?_
         refine LX rfl rfl rfl (xlb5 ag145 (Le.bk hl11 hb26) rfl rfl rfl rfl rfl rfl) trivial ?_
         refine LP rfl rfl rfl (xmv rfl) ?_
         refine LP rfl rfl rfl (xmv rfl) ?_
         refine LP rfl rfl rfl (xaddn rfl rfl (by omega)) ?_
         have le76 : Le w1 w8 := (hq5.le (hl2.trans hl3) (inc hl2.size hb6z inn))
         have le77 : Le w1 w34 := (hq24.le (le76.trans hl4) (inc hl2.size hb6z inn))
         refine LU rfl rfl (xsb sz145 (Le.bk (le77.trans hl11) hb1) rfl rfl (agg_cells [.int .i64 ((n : Int), x, 0, 0, y0).1, .int .i64 ((n : Int), x, 0, 0, y0).2.1, .int .i64 ((n : Int), x, 0, 0, y0).2.2.1, .int .i64 ((n : Int), x, 0, 0, y0).2.2.2.1, .int .i64 ((n : Int), x, 0, 0, y0).2.2.2.2]) rfl rfl (al_cons rfl (al_cons rfl (al_cons rfl (al_cons rfl (al_cons rfl al_nil)))))) ?_
         rintro w37 ⟨hq26, hb28⟩
         dsimp only [put] at hb28
         have hk14 := hq26.bk (ni_new hb6z (Nat.lt_of_lt_of_le (bk_lt hb1) hl2.size) ni_nil) (Le.bk hl11 hb26)
         refine ⟨trivial, ?_⟩
         refine LP rfl rfl rfl (xas rfl) ?_
         refine LP rfl rfl rfl (xas rfl) ?_
         refine LZ ?_
         refine F_seq ?_
         refine W_ret ?_
         have hrd : readR b n x = ((n : Int), x, 0, 0, y0) := by simp [readR, immR, placeB, placeI, getD_of, short_u16, short_i16, first1, two1, wide1, *]
         rw [← hrd] at c23
         rw [badX_read hB] at c23
         have e0 := (one_at hx).trans ((if_neg (by omega)).trans (if_neg (by simpa using c23)))
         rw [hrd] at e0
         have e := e0
         have le78 : Le w w34 := (hq24.le (le71.trans hl4) (inc (Nat.le_trans hl1.size hl2.size) hb6z inn))
         have le79 : Le w w37 := (hq26.le (le78.trans hl11) (inc (Nat.le_refl _) hb1z inn))
         exact F_endR (rs := [.cell 4 145, .tmp 5, .tmp 6]) rfl (.cell rfl (run_ld0 ag145 hb28 rfl) (.tmp rfl (.tmp rfl .nil))) rfl ⟨_, rfl, by rw [e]; rfl, le79⟩
       · -- c22 no
        try simp only [Bool.not_eq_true', Bool.not_eq_false', decide_eq_true_eq, decide_eq_false_iff_not] at c22
        have hy : wideR x ≠ 1 := mt hF.y.2 (by simpa using c22)
        refine W_seq ?_
        refine W_reg (.pure 0 (.pure 1 (.pure 2 (.pure 3 .nil)))) rfl ?_
        refine LP rfl rfl rfl (xmv rfl) ?_
        refine LP rfl rfl rfl (xand rfl rfl) ?_
        refine LP rfl rfl rfl (xneq rfl rfl) ?_
        refine LP rfl rfl rfl (xas rfl) ?_
        refine LZ ?_
        refine F_seq ?_
        refine W_cond rfl (fun c24 => ?_) (fun c24 => ?_)
        · -- c24 yes
         try simp only [Bool.not_eq_true', Bool.not_eq_false', decide_eq_true_eq, decide_eq_false_iff_not] at c24
         have hh : x = 1 := hF.h.1 (by simpa using c24)
         have hw2 : wideR x = 2 := by rw [hh]; decide
         exact absurd hh (fun e => by rw [e] at ha hb2; first | exact absurd ha (by decide) | exact absurd hb2 (by decide))
        · -- c24 no
         try simp only [Bool.not_eq_true', Bool.not_eq_false', decide_eq_true_eq, decide_eq_false_iff_not] at c24
         have hh : x ≠ 1 := mt hF.h.2 (by simpa using c24)
         refine W_seq ?_
         refine W_reg (.pure 0 (.pure 1 (.pure 2 (.pure 3 .nil)))) rfl ?_
         refine LP rfl rfl rfl (xmv rfl) ?_
         refine LP rfl rfl rfl (xand rfl rfl) ?_
         refine LP rfl rfl rfl (xneq rfl rfl) ?_
         refine LP rfl rfl rfl (xas rfl) ?_
         refine LZ ?_
         refine F_seq ?_
         refine W_cond rfl (fun c25 => ?_) (fun c25 => ?_)
         · -- c25 yes
          try simp only [Bool.not_eq_true', Bool.not_eq_false', decide_eq_true_eq, decide_eq_false_iff_not] at c25
          have hj : x = 22 ∨ x = 23 := hF.j.1 (by simpa using c25)
          have hw2 : wideR x = 2 := wide_two hj
          refine W_draw (.pure 0 (.pure 1 (.still 2 (.pure 3 (.pure 4 (.pure 5 (.still 6 (.pure 7 (.pure 8 (.pure 9 (.pure 10 (.pure 11 (.tail 12 .nil))))))))))))) (Le w9) hfol (by kernel_rfl) (pkb (pkt pkB)) (Le.drew _) ?_
          refine LP rfl rfl rfl (xmv rfl) ?_
          obtain ⟨y0, hy0⟩ : ∃ y, b[n + 1]? = some y := ⟨_, List.getElem?_eq_getElem (by omega)⟩
          have hyr0 := hB y0 (List.mem_of_getElem? hy0)
          have hs10 : ((b.drop (n + 1)).take ((n + sz) - (n + 1)))[0]? = some y0 := sub_get (i := 0) hy0 (by omega)
          refine LP rfl rfl rfl (xix 0 un22 sz5 (RdE.sub' hb (by first | omega | (simp only [List.length_append, List.length_take, List.length_drop, List.length_cons, List.length_nil, List.length_set, List.length_replicate, maxLen]; omega))).sh rfl rfl (by omega) (by first | omega | (simp only [List.length_append, List.length_take, List.length_drop, List.length_cons, List.length_nil, List.length_set, List.length_replicate, maxLen]; omega))) ?_
          have le80 : Le w w8 := (hq5.le (hl1.trans (hl2.trans hl3)) (inc (Nat.le_trans hl1.size hl2.size) hb6z inn))
          refine LS rfl rfl rfl (fun w' hw' => (xle1 sc5 (RdE.sub' (RdE.le ((le80.trans hl4).trans hw') hb) (by first | omega | (simp only [List.length_append, List.length_take, List.length_drop, List.length_cons, List.length_nil, List.length_set, List.length_replicate, maxLen]; omega))) hs10 rfl rfl)) ?_
          refine LP rfl rfl rfl (xcvn un5 un72 (IntWalk.u16_in _ (by omega)) rfl) ?_
          refine LP rfl rfl rfl (xmv rfl) ?_
          obtain ⟨y1, hy1⟩ : ∃ y, b[n + 2]? = some y := ⟨_, List.getElem?_eq_getElem (by omega)⟩
          have hyr1 := hB y1 (List.mem_of_getElem? hy1)
          have hs11 : ((b.drop (n + 1)).take ((n + sz) - (n + 1)))[1]? = some y1 := sub_get (i := 1) hy1 (by omega)
          refine LP rfl rfl rfl (xix 1 un22 sz5 (RdE.sub' hb (by first | omega | (simp only [List.length_append, List.length_take, List.length_drop, List.length_cons, List.length_nil, List.length_set, List.length_replicate, maxLen]; omega))).sh rfl rfl (by omega) (by first | omega | (simp only [List.length_append, List.length_take, List.length_drop, List.length_cons, List.length_nil, List.length_set, List.length_replicate, maxLen]; omega))) ?_
          refine LS rfl rfl rfl (fun w' hw' => (xle1 sc5 (RdE.sub' (RdE.le ((le80.trans hl4).trans hw') hb) (by first | omega | (simp only [List.length_append, List.length_take, List.length_drop, List.length_cons, List.length_nil, List.length_set, List.length_replicate, maxLen]; omega))) hs11 rfl rfl)) ?_
          refine LP rfl rfl rfl (xcvn un5 un72 (IntWalk.u16_in _ (by omega)) rfl) ?_
          refine LP rfl rfl rfl (xshl rfl rfl (by omega)) ?_
          refine LP rfl rfl rfl (xor rfl rfl) ?_
          refine LP rfl rfl rfl (xcv un72 un2 rfl) ?_
          refine LP rfl rfl rfl (xfa fa145_4 rfl) ?_
          refine LUt rfl rfl (xsb sz2 (Le.bk (hl4.trans (Le.drew w9)) hb7) rfl rfl (int_cells _ _) rfl rfl (al_cons rfl al_nil)) ?_
          rintro w38 ⟨hq27, hb29⟩
          dsimp only [put] at hb29
          refine LZ ?_
          refine F_block ?_
          refine F_seq ?_
          refine W_seq ?_
          refine W_seq ?_
          refine W_reg (.one 0 (.one 1 (.pure 2 .nil))) rfl ?_
          refine LX rfl rfl rfl (xlb5 ag145 hb29 rfl rfl rfl rfl rfl rfl) trivial ?_
          refine LF rfl rfl rfl has155 rfl (c_index (x := ((n : Int), x, 0, 0, (IntKind.wrap .i64 (bitI .or .u16 y0 (shlI .u16 y1 (8 : Int))))))) ?_
          rintro _ w39 ⟨rfl, hl12⟩
          refine ⟨trivial, ?_⟩
          refine LP rfl rfl rfl (xnot rfl) ?_
          refine LZ ?_
          refine F_seq ?_
          refine W_cond rfl (fun c26 => ?_) (fun c26 => ?_)
          · -- c26 yes
           try simp only [Bool.not_eq_true', Bool.not_eq_false', decide_eq_true_eq, decide_eq_false_iff_not] at c26
           refine W_seq ?_
           refine W_reg (.pure 0 (.one 1 (.pure 2 (.pure 3 .nil)))) rfl ?_
           refine LP rfl rfl rfl (xbd rfl (bd145_ ())) ?_
           have le81 : Le w1 w8 := (hq5.le (hl2.trans hl3) (inc hl2.size hb6z inn))
           have le82 : Le w1 w38 := (hq27.le (le81.trans (hl4.trans (Le.drew w9))) (inc hl2.size hb6z inn))
           refine LU rfl rfl (xsb sz145 (Le.bk (le82.trans hl12) hb1) rfl rfl (agg_cells _) rfl rfl (al_cons rfl (al_cons rfl (al_cons rfl (al_cons rfl (al_cons rfl al_nil)))))) ?_
           rintro w40 ⟨hq28, hb30⟩
           dsimp only [put] at hb30
           have hk15 := hq28.bk (ni_new hb6z (Nat.lt_of_lt_of_le (bk_lt hb1) hl2.size) ni_nil) (Le.bk hl12 hb29)
           refine ⟨trivial, ?_⟩
           refine LP rfl rfl rfl (xas rfl) ?_
           refine LP rfl rfl rfl (xas rfl) ?_
           refine LZ ?_
           refine F_seq ?_
           refine W_ret ?_
           refine F_ret_then ?_
           have hrd : readR b n x = ((n : Int), x, 0, 0, (IntKind.wrap .i64 (bitI .or .u16 y0 (shlI .u16 y1 (8 : Int))))) := by simp [readR, immR, placeB, placeI, getD_of, short_u16, short_i16, first1, two1, wide1, *]
           rw [← hrd] at c26
           rw [badX_read hB] at c26
           have e := (one_at hx).trans ((if_neg (by omega)).trans (if_pos (by simpa using c26)))
           have le83 : Le w w38 := (hq27.le (le80.trans (hl4.trans (Le.drew w9))) (inc (Nat.le_trans hl1.size hl2.size) hb6z inn))
           have le84 : Le w w40 := (hq28.le (le83.trans hl12) (inc (Nat.le_refl _) hb1z inn))
           exact F_endR (rs := [.cell 4 145, .tmp 5, .tmp 6]) rfl (.cell rfl (run_ld0 ag145 hb30 rfl) (.tmp rfl (.tmp rfl .nil))) rfl ⟨_, rfl, by rw [e]; rfl, le84⟩
          · -- c26 no
           try simp only [Bool.not_eq_true', Bool.not_eq_false', decide_eq_true_eq, decide_eq_false_iff_not] at c26
           refine W_skip ?_
           refine F_seq ?_
           refine W_seq ?_
           refine W_reg (.one 0 (.pure 1 (.pure 2 (.pure 3 (.one 4 (.pure 5 (.pure 6 .nil))))))) rfl ?_
           refine LX rfl rfl rfl (xlb5 ag145 (Le.bk hl12 hb29) rfl rfl rfl rfl rfl rfl) trivial ?_
           refine LP rfl rfl rfl (xmv rfl) ?_
           refine LP rfl rfl rfl (xmv rfl) ?_
           refine LP rfl rfl rfl (xaddn rfl rfl (by omega)) ?_
           have le85 : Le w1 w8 := (hq5.le (hl2.trans hl3) (inc hl2.size hb6z inn))
           have le86 : Le w1 w38 := (hq27.le (le85.trans (hl4.trans (Le.drew w9))) (inc hl2.size hb6z inn))
           refine LU rfl rfl (xsb sz145 (Le.bk (le86.trans hl12) hb1) rfl rfl (agg_cells [.int .i64 ((n : Int), x, 0, 0, (IntKind.wrap .i64 (bitI .or .u16 y0 (shlI .u16 y1 (8 : Int))))).1, .int .i64 ((n : Int), x, 0, 0, (IntKind.wrap .i64 (bitI .or .u16 y0 (shlI .u16 y1 (8 : Int))))).2.1, .int .i64 ((n : Int), x, 0, 0, (IntKind.wrap .i64 (bitI .or .u16 y0 (shlI .u16 y1 (8 : Int))))).2.2.1, .int .i64 ((n : Int), x, 0, 0, (IntKind.wrap .i64 (bitI .or .u16 y0 (shlI .u16 y1 (8 : Int))))).2.2.2.1, .int .i64 ((n : Int), x, 0, 0, (IntKind.wrap .i64 (bitI .or .u16 y0 (shlI .u16 y1 (8 : Int))))).2.2.2.2]) rfl rfl (al_cons rfl (al_cons rfl (al_cons rfl (al_cons rfl (al_cons rfl al_nil)))))) ?_
           rintro w41 ⟨hq29, hb31⟩
           dsimp only [put] at hb31
           have hk16 := hq29.bk (ni_new hb6z (Nat.lt_of_lt_of_le (bk_lt hb1) hl2.size) ni_nil) (Le.bk hl12 hb29)
           refine ⟨trivial, ?_⟩
           refine LP rfl rfl rfl (xas rfl) ?_
           refine LP rfl rfl rfl (xas rfl) ?_
           refine LZ ?_
           refine F_seq ?_
           refine W_ret ?_
           have hrd : readR b n x = ((n : Int), x, 0, 0, (IntKind.wrap .i64 (bitI .or .u16 y0 (shlI .u16 y1 (8 : Int))))) := by simp [readR, immR, placeB, placeI, getD_of, short_u16, short_i16, first1, two1, wide1, *]
           rw [← hrd] at c26
           rw [badX_read hB] at c26
           have e0 := (one_at hx).trans ((if_neg (by omega)).trans (if_neg (by simpa using c26)))
           rw [hrd] at e0
           have e := e0
           have le87 : Le w w38 := (hq27.le (le80.trans (hl4.trans (Le.drew w9))) (inc (Nat.le_trans hl1.size hl2.size) hb6z inn))
           have le88 : Le w w41 := (hq29.le (le87.trans hl12) (inc (Nat.le_refl _) hb1z inn))
           exact F_endR (rs := [.cell 4 145, .tmp 5, .tmp 6]) rfl (.cell rfl (run_ld0 ag145 hb31 rfl) (.tmp rfl (.tmp rfl .nil))) rfl ⟨_, rfl, by rw [e]; rfl, le88⟩
         · -- c25 no
          try simp only [Bool.not_eq_true', Bool.not_eq_false', decide_eq_true_eq, decide_eq_false_iff_not] at c25
          have hj : ¬ (x = 22 ∨ x = 23) := mt hF.j.2 (by simpa using c25)
          have hw2 : wideR x = 0 := wide_zero hok hy hh hj
          refine W_skip ?_
          refine F_block ?_
          refine F_seq ?_
          refine W_seq ?_
          refine W_seq ?_
          refine W_reg (.one 0 (.one 1 (.pure 2 .nil))) rfl ?_
          refine LX rfl rfl rfl (xlb5 ag145 (Le.bk hl4 hb7) rfl rfl rfl rfl rfl rfl) trivial ?_
          refine LF rfl rfl rfl has155 rfl (c_index (x := ((n : Int), x, 0, 0, 0))) ?_
          rintro _ w42 ⟨rfl, hl13⟩
          refine ⟨trivial, ?_⟩
          refine LP rfl rfl rfl (xnot rfl) ?_
          refine LZ ?_
          refine F_seq ?_
          refine W_cond rfl (fun c27 => ?_) (fun c27 => ?_)
          · -- c27 yes
           try simp only [Bool.not_eq_true', Bool.not_eq_false', decide_eq_true_eq, decide_eq_false_iff_not] at c27
           refine W_seq ?_
           refine W_reg (.pure 0 (.one 1 (.pure 2 (.pure 3 .nil)))) rfl ?_
           refine LP rfl rfl rfl (xbd rfl (bd145_ ())) ?_
           have le89 : Le w1 w8 := (hq5.le (hl2.trans hl3) (inc hl2.size hb6z inn))
           refine LU rfl rfl (xsb sz145 (Le.bk (le89.trans (hl4.trans hl13)) hb1) rfl rfl (agg_cells _) rfl rfl (al_cons rfl (al_cons rfl (al_cons rfl (al_cons rfl (al_cons rfl al_nil)))))) ?_
           rintro w43 ⟨hq30, hb32⟩
           dsimp only [put] at hb32
           have hk17 := hq30.bk (ni_new hb6z (Nat.lt_of_lt_of_le (bk_lt hb1) hl2.size) ni_nil) (Le.bk (hl4.trans hl13) hb7)
           refine ⟨trivial, ?_⟩
           refine LP rfl rfl rfl (xas rfl) ?_
           refine LP rfl rfl rfl (xas rfl) ?_
           refine LZ ?_
           refine F_seq ?_
           refine W_ret ?_
           refine F_ret_then ?_
           have hrd : readR b n x = ((n : Int), x, 0, 0, 0) := by simp [readR, immR, placeB, placeI, getD_of, short_u16, short_i16, first1, two1, wide1, *]
           rw [← hrd] at c27
           rw [badX_read hB] at c27
           have e := (one_at hx).trans ((if_neg (by omega)).trans (if_pos (by simpa using c27)))
           have le90 : Le w w8 := (hq5.le (hl1.trans (hl2.trans hl3)) (inc (Nat.le_trans hl1.size hl2.size) hb6z inn))
           have le91 : Le w w43 := (hq30.le (le90.trans (hl4.trans hl13)) (inc (Nat.le_refl _) hb1z inn))
           exact F_endR (rs := [.cell 4 145, .tmp 5, .tmp 6]) rfl (.cell rfl (run_ld0 ag145 hb32 rfl) (.tmp rfl (.tmp rfl .nil))) rfl ⟨_, rfl, by rw [e]; rfl, le91⟩
          · -- c27 no
           try simp only [Bool.not_eq_true', Bool.not_eq_false', decide_eq_true_eq, decide_eq_false_iff_not] at c27
           refine W_skip ?_
           refine F_seq ?_
           refine W_seq ?_
           refine W_reg (.one 0 (.pure 1 (.pure 2 (.pure 3 (.one 4 (.pure 5 (.pure 6 .nil))))))) rfl ?_
           refine LX rfl rfl rfl (xlb5 ag145 (Le.bk (hl4.trans hl13) hb7) rfl rfl rfl rfl rfl rfl) trivial ?_
           refine LP rfl rfl rfl (xmv rfl) ?_
           refine LP rfl rfl rfl (xmv rfl) ?_
           refine LP rfl rfl rfl (xaddn rfl rfl (by omega)) ?_
           have le92 : Le w1 w8 := (hq5.le (hl2.trans hl3) (inc hl2.size hb6z inn))
           refine LU rfl rfl (xsb sz145 (Le.bk (le92.trans (hl4.trans hl13)) hb1) rfl rfl (agg_cells [.int .i64 ((n : Int), x, 0, 0, 0).1, .int .i64 ((n : Int), x, 0, 0, 0).2.1, .int .i64 ((n : Int), x, 0, 0, 0).2.2.1, .int .i64 ((n : Int), x, 0, 0, 0).2.2.2.1, .int .i64 ((n : Int), x, 0, 0, 0).2.2.2.2]) rfl rfl (al_cons rfl (al_cons rfl (al_cons rfl (al_cons rfl (al_cons rfl al_nil)))))) ?_
           rintro w44 ⟨hq31, hb33⟩
           dsimp only [put] at hb33
           have hk18 := hq31.bk (ni_new hb6z (Nat.lt_of_lt_of_le (bk_lt hb1) hl2.size) ni_nil) (Le.bk (hl4.trans hl13) hb7)
           refine ⟨trivial, ?_⟩
           refine LP rfl rfl rfl (xas rfl) ?_
           refine LP rfl rfl rfl (xas rfl) ?_
           refine LZ ?_
           refine F_seq ?_
           refine W_ret ?_
           have hrd : readR b n x = ((n : Int), x, 0, 0, 0) := by simp [readR, immR, placeB, placeI, getD_of, short_u16, short_i16, first1, two1, wide1, *]
           rw [← hrd] at c27
           rw [badX_read hB] at c27
           have e0 := (one_at hx).trans ((if_neg (by omega)).trans (if_neg (by simpa using c27)))
           rw [hrd] at e0
           have e := e0
           have le93 : Le w w8 := (hq5.le (hl1.trans (hl2.trans hl3)) (inc (Nat.le_trans hl1.size hl2.size) hb6z inn))
           have le94 : Le w w44 := (hq31.le (le93.trans (hl4.trans hl13)) (inc (Nat.le_refl _) hb1z inn))
           exact F_endR (rs := [.cell 4 145, .tmp 5, .tmp 6]) rfl (.cell rfl (run_ld0 ag145 hb33 rfl) (.tmp rfl (.tmp rfl .nil))) rfl ⟨_, rfl, by rw [e]; rfl, le94⟩
end Go.Proofs.Ythmhbonhagjnnaa
