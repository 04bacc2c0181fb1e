/- Procedures: an instruction is read, by the document. -/
import Derived.Test.YthmhbonhagjnnaaProg
import Derived.Test.YthmhbonhagjnnaaA7
import Derived.KernelRfl
namespace Go.Proofs.Ythmhbonhagjnnaa
open Go.RowKit
set_option linter.unusedVariables false
set_option linter.unusedSimpArgs false
theorem has126 : Has Try.prog 126 Try.f126 := ⟨Try.func126, by kernel_rfl, rfl⟩
theorem has127 : Has Try.prog 127 Try.f127 := ⟨Try.func127, by kernel_rfl, rfl⟩
theorem r_one {vb : Value} {b : List Int} {p : Int} {w : World} (hb : RdE w.heap ByteE vb b) (hB : ∀ x ∈ b, 0 ≤ x ∧ x ≤ 255) :
    Fn Try.prog 85 #[vb, .int .i64 p] w fun v w' => v = .tuple #[.agg (InstrE.f (oneR b p).1).toArray, .int .i64 (oneR b p).2.1, .int .i64 (oneR b p).2.2] ∧ Le w w' := by
 refine Fn.enter 115 [(0, _), (1, _)] Try.func85 rfl rfl rfl rfl ?_
 have hzb := hb.sh.le
 refine W_seq ?_
 refine W_reg (.one 0 (.pure 1 (.pure 2 .nil))) rfl ?_
 refine LT rfl rfl rfl (xal zr145) ?_
 rintro _ w1 ⟨b1, rfl, hl1, hb1, hb1z⟩
 refine ⟨trivial, ?_⟩
 refine LP rfl rfl rfl (xas rfl) ?_
 refine LP rfl rfl rfl (xas rfl) ?_
 refine LZ ?_
 refine F_seq ?_
 refine W_seq ?_
 refine W_seq ?_
 refine W_reg (.pure 0 (.pure 1 (.pure 2 (.pure 3 (.pure 4 (.pure 5 (.pure 6 (.pure 7 .nil)))))))) rfl ?_
 refine LP rfl rfl rfl (xmv rfl) ?_
 refine LP rfl rfl rfl (xlss rfl rfl) ?_
 refine LP rfl rfl rfl (xmv rfl) ?_
 refine L_split (t := 14) rfl (fun c1 => ?_) (fun c1 => ?_)
 · -- c1 yes
  replace c1 := of_decide_eq_true c1
  refine LN rfl rfl rfl ?_
  refine LN rfl rfl rfl ?_
  refine LN rfl rfl rfl ?_
  refine LN rfl rfl rfl ?_
  refine LP rfl rfl rfl (xpk1 rfl rfl) ?_
  refine LZ ?_
  refine F_seq ?_
  refine W_if rfl ?_
  refine W_seq ?_
  refine W_reg (.pure 0 (.one 1 (.pure 2 (.pure 3 .nil)))) rfl ?_
  refine LP rfl rfl rfl (xbd rfl (bd145_ ())) ?_
  refine LU rfl rfl (xsb sz145 hb1 rfl rfl (agg_cells _) rfl rfl (al_cons rfl (al_cons rfl (al_cons rfl (al_cons rfl (al_cons rfl al_nil)))))) ?_
  rintro w2 ⟨hq1, hb2⟩
  dsimp only [put] at hb2
  refine ⟨trivial, ?_⟩
  refine LP rfl rfl rfl (xas rfl) ?_
  refine LP rfl rfl rfl (xas rfl) ?_
  refine LZ ?_
  refine F_seq ?_
  refine W_ret ?_
  refine F_ret_then ?_
  have e := one_out (b := b) (p := p) (by omega)
  have le1 : Le w w2 := (hq1.le hl1 (inc (Nat.le_refl _) hb1z inn))
  exact F_endR (rs := [.cell 4 145, .tmp 5, .tmp 6]) rfl (.cell rfl (run_ld0 ag145 hb2 rfl) (.tmp rfl (.tmp rfl .nil))) rfl ⟨_, rfl, by rw [e]; rfl, le1⟩
 · -- c1 no
  replace c1 := of_decide_eq_false c1
  refine LP rfl rfl rfl (xmv rfl) ?_
  refine LP rfl rfl rfl (xmv rfl) ?_
  refine LP rfl rfl rfl (xlen un22 hb.sh rfl) ?_
  refine LP rfl rfl rfl (xgeq rfl rfl) ?_
  refine LP rfl rfl rfl (xpk0 rfl rfl) ?_
  refine LZ ?_
  refine F_seq ?_
  refine W_cond rfl (fun c3 => ?_) (fun c3 => ?_)
  · -- c3 yes
   replace c3 := of_decide_eq_true c3
   refine W_seq ?_
   refine W_reg (.pure 0 (.one 1 (.pure 2 (.pure 3 .nil)))) rfl ?_
   refine LP rfl rfl rfl (xbd rfl (bd145_ ())) ?_
   refine LU rfl rfl (xsb sz145 hb1 rfl rfl (agg_cells _) rfl rfl (al_cons rfl (al_cons rfl (al_cons rfl (al_cons rfl (al_cons rfl al_nil)))))) ?_
   rintro w3 ⟨hq2, hb3⟩
   dsimp only [put] at hb3
   refine ⟨trivial, ?_⟩
   refine LP rfl rfl rfl (xas rfl) ?_
   refine LP rfl rfl rfl (xas rfl) ?_
   refine LZ ?_
   refine F_seq ?_
   refine W_ret ?_
   refine F_ret_then ?_
   have e := one_out (b := b) (p := p) (by omega)
   have le2 : Le w w3 := (hq2.le hl1 (inc (Nat.le_refl _) hb1z inn))
   exact F_endR (rs := [.cell 4 145, .tmp 5, .tmp 6]) rfl (.cell rfl (run_ld0 ag145 hb3 rfl) (.tmp rfl (.tmp rfl .nil))) rfl ⟨_, rfl, by rw [e]; rfl, le2⟩
  · -- c3 no
   replace c3 := of_decide_eq_false c3
   obtain ⟨n, rfl⟩ : ∃ n : Nat, p = n := ⟨p.toNat, by omega⟩
   obtain ⟨x, hx⟩ : ∃ x, b[n]? = some x := ⟨_, List.getElem?_eq_getElem (by omega)⟩
   have hxr := hB x (List.mem_of_getElem? hx)
   have hzr := sizeR_rng x
   obtain ⟨sz, hsz⟩ : ∃ sz : Nat, sizeR x = sz := ⟨(sizeR x).toNat, by omega⟩
   refine W_skip ?_
   refine F_seq ?_
   refine W_seq ?_
   refine W_reg (.pure 0 (.pure 1 (.pure 2 (.one 3 (.pure 4 (.one 5 (.pure 6 .nil))))))) rfl ?_
   refine LP rfl rfl rfl (xmv rfl) ?_
   refine LP rfl rfl rfl (xmv rfl) ?_
   refine LP rfl rfl rfl (xix n un22 sz5 hb.sh rfl rfl (by omega) (by omega)) ?_
   refine LX rfl rfl rfl (xle1 sc5 (RdE.le hl1 hb) hx rfl rfl) trivial ?_
   refine LP rfl rfl rfl (xcvn un5 un3 (IntWalk.i64_in _ (by omega)) rfl) ?_
   refine LF rfl rfl rfl has123 rfl (r_size) ?_
   rintro _ w4 ⟨rfl, hl2⟩
   refine ⟨trivial, ?_⟩
   refine LP rfl rfl rfl (xas rfl) ?_
   refine LZ ?_
   refine F_seq ?_
   refine W_seq ?_
   refine W_seq ?_
   refine W_reg (.pure 0 (.pure 1 (.pure 2 (.pure 3 (.pure 4 (.pure 5 (.pure 6 (.pure 7 (.pure 8 (.pure 9 .nil)))))))))) rfl ?_
   refine LP rfl rfl rfl (xmv rfl) ?_
   refine LP rfl rfl rfl (xeql rfl rfl) ?_
   refine LP rfl rfl rfl (xmv rfl) ?_
   refine L_split (t := 29) rfl (fun c4 => ?_) (fun c4 => ?_)
   · -- c4 yes
    replace c4 := of_decide_eq_true c4
    refine LN rfl rfl rfl ?_
    refine LN rfl rfl rfl ?_
    refine LN rfl rfl rfl ?_
    refine LN rfl rfl rfl ?_
    refine LN rfl rfl rfl ?_
    refine LN rfl rfl rfl ?_
    refine LP rfl rfl rfl (xpk1 rfl rfl) ?_
    refine LZ ?_
    refine F_seq ?_
    refine W_if rfl ?_
    refine W_seq ?_
    refine W_reg (.pure 0 (.one 1 (.pure 2 (.pure 3 .nil)))) rfl ?_
    refine LP rfl rfl rfl (xbd rfl (bd145_ ())) ?_
    refine LU rfl rfl (xsb sz145 (Le.bk hl2 hb1) rfl rfl (agg_cells _) rfl rfl (al_cons rfl (al_cons rfl (al_cons rfl (al_cons rfl (al_cons rfl al_nil)))))) ?_
    rintro w5 ⟨hq3, hb4⟩
    dsimp only [put] at hb4
    refine ⟨trivial, ?_⟩
    refine LP rfl rfl rfl (xas rfl) ?_
    refine LP rfl rfl rfl (xas rfl) ?_
    refine LZ ?_
    refine F_seq ?_
    refine W_ret ?_
    refine F_ret_then ?_
    have e := (one_at hx).trans (if_pos (by omega))
    have le3 : Le w w5 := (hq3.le (hl1.trans hl2) (inc (Nat.le_refl _) hb1z inn))
    exact F_endR (rs := [.cell 4 145, .tmp 5, .tmp 6]) rfl (.cell rfl (run_ld0 ag145 hb4 rfl) (.tmp rfl (.tmp rfl .nil))) rfl ⟨_, rfl, by rw [e]; rfl, le3⟩
   · -- c4 no
    replace c4 := of_decide_eq_false c4
    refine LP rfl rfl rfl (xmv rfl) ?_
    refine LP rfl rfl rfl (xmv rfl) ?_
    refine LP rfl rfl rfl (xlen un22 hb.sh rfl) ?_
    refine LP rfl rfl rfl (xmv rfl) ?_
    refine LP rfl rfl rfl (xsubn rfl rfl (by omega)) ?_
    refine LP rfl rfl rfl (xgtr rfl rfl) ?_
    refine LP rfl rfl rfl (xpk0 rfl rfl) ?_
    refine LZ ?_
    refine F_seq ?_
    refine W_cond rfl (fun c6 => ?_) (fun c6 => ?_)
    · -- c6 yes
     replace c6 := of_decide_eq_true c6
     refine W_seq ?_
     refine W_reg (.pure 0 (.one 1 (.pure 2 (.pure 3 .nil)))) rfl ?_
     refine LP rfl rfl rfl (xbd rfl (bd145_ ())) ?_
     refine LU rfl rfl (xsb sz145 (Le.bk hl2 hb1) rfl rfl (agg_cells _) rfl rfl (al_cons rfl (al_cons rfl (al_cons rfl (al_cons rfl (al_cons rfl al_nil)))))) ?_
     rintro w6 ⟨hq4, hb5⟩
     dsimp only [put] at hb5
     refine ⟨trivial, ?_⟩
     refine LP rfl rfl rfl (xas rfl) ?_
     refine LP rfl rfl rfl (xas rfl) ?_
     refine LZ ?_
     refine F_seq ?_
     refine W_ret ?_
     refine F_ret_then ?_
     have e := (one_at hx).trans (if_pos (by omega))
     have le4 : Le w w6 := (hq4.le (hl1.trans hl2) (inc (Nat.le_refl _) hb1z inn))
     exact F_endR (rs := [.cell 4 145, .tmp 5, .tmp 6]) rfl (.cell rfl (run_ld0 ag145 hb5 rfl) (.tmp rfl (.tmp rfl .nil))) rfl ⟨_, rfl, by rw [e]; rfl, le4⟩
    · -- c6 no
     replace c6 := of_decide_eq_false c6
     have hok : okOp x = true := by rw [size_ok]; simp; omega
     have hF := form_ok hok
     have hw := wide_rng hok
     have hsum := size_sum x
     refine W_skip ?_
     refine F_seq ?_
     refine W_seq ?_
     refine W_reg (.pure 0 (.pure 1 (.pure 2 (.pure 3 (.one 4 (.pure 5 (.pure 6 (.one 7 (.one 8 .nil))))))))) rfl ?_
     refine LP rfl rfl rfl (xmv rfl) ?_
     refine LP rfl rfl rfl (xmv rfl) ?_
     refine LP rfl rfl rfl (xmv rfl) ?_
     refine LP rfl rfl rfl (xix n un22 sz5 hb.sh rfl rfl (by omega) (by omega)) ?_
     refine LX rfl rfl rfl (xle1 sc5 (RdE.le (hl1.trans hl2) hb) hx rfl rfl) trivial ?_
     refine LP rfl rfl rfl (xcvn un5 un3 (IntWalk.i64_in _ (by omega)) rfl) ?_
     refine LP rfl rfl rfl (xbd rfl (bd145_0ii_1ii (n : Int) x)) ?_
     refine LT rfl rfl rfl (xal zr145) ?_
     rintro _ w7 ⟨b2, rfl, hl3, hb6, hb6z⟩
     refine ⟨trivial, ?_⟩
     refine LU rfl rfl (xsb sz145 hb6 rfl rfl (agg_cells _) rfl rfl (al_cons rfl (al_cons rfl (al_cons rfl (al_cons rfl (al_cons rfl al_nil)))))) ?_
     rintro w8 ⟨hq5, hb7⟩
     dsimp only [put] at hb7
     refine ⟨trivial, ?_⟩
     refine LZ ?_
     refine F_seq ?_
     refine W_seq ?_
     refine W_reg (.pure 0 (.pure 1 (.pure 2 .nil))) rfl ?_
     refine LP rfl rfl rfl (xmv rfl) ?_
     refine LP rfl rfl rfl (xaddn rfl rfl (by omega)) ?_
     refine LP rfl rfl rfl (xas rfl) ?_
     refine LZ ?_
     refine F_seq ?_
     refine W_seq ?_
     refine W_seq ?_
     refine W_reg (.pure 0 (.one 1 (.one 2 .nil))) rfl ?_
     refine LP rfl rfl rfl (xfa fa145_1 rfl) ?_
     refine LX rfl rfl rfl (xld sc3 rfl (cl_bk hb7 rfl)) trivial ?_
     refine LF rfl rfl rfl has124 rfl (r_first) ?_
     rintro _ w9 ⟨rfl, hl4⟩
     refine ⟨trivial, ?_⟩
     refine LZ ?_
     refine F_seq ?_
     refine W_cond rfl (fun c7 => ?_) (fun c7 => ?_)
     · -- c7 yes
      have ha : firstR x = true := c7
      simp only [ha, if_true] at hsum
      refine W_seq ?_
      refine W_reg (.pure 0 (.pure 1 (.pure 2 (.one 3 (.pure 4 (.pure 5 (.one 6 .nil))))))) rfl ?_
      refine LP rfl rfl rfl (xmv rfl) ?_
      refine LP rfl rfl rfl (xmv rfl) ?_
      obtain ⟨y0, hy0⟩ : ∃ y, b[n + 1]? = some y := ⟨_, List.getElem?_eq_getElem (by omega)⟩
      have hyr0 := hB y0 (List.mem_of_getElem? hy0)
      refine LP rfl rfl rfl (xix (n + 1) un22 sz5 hb.sh rfl rfl (by omega) (by omega)) ?_
      have le5 : Le w w8 := (hq5.le (hl1.trans (hl2.trans hl3)) (inc (Nat.le_trans hl1.size hl2.size) hb6z inn))
      refine LX rfl rfl rfl (xle1 sc5 (RdE.le (le5.trans hl4) hb) hy0 rfl rfl) trivial ?_
      refine LP rfl rfl rfl (xcvn un5 un3 (IntWalk.i64_in _ (by omega)) rfl) ?_
      refine LP rfl rfl rfl (xfa fa145_2 rfl) ?_
      refine LU rfl rfl (xsb sz3 (Le.bk hl4 hb7) rfl rfl (int_cells _ _) rfl rfl (al_cons rfl al_nil)) ?_
      rintro w10 ⟨hq6, hb8⟩
      dsimp only [put] at hb8
      refine ⟨trivial, ?_⟩
      refine LZ ?_
      refine F_seq ?_
      refine W_reg (.pure 0 (.pure 1 (.pure 2 .nil))) rfl ?_
      refine LP rfl rfl rfl (xmv rfl) ?_
      refine LP rfl rfl rfl (xaddn rfl rfl (by omega)) ?_
      refine LP rfl rfl rfl (xas rfl) ?_
      refine LZ ?_
      refine F_seq ?_
      refine W_seq ?_
      refine W_seq ?_
      refine W_reg (.pure 0 (.one 1 (.one 2 .nil))) rfl ?_
      refine LP rfl rfl rfl (xfa fa145_1 rfl) ?_
      refine LX rfl rfl rfl (xld sc3 rfl (cl_bk hb8 rfl)) trivial ?_
      refine LF rfl rfl rfl has125 rfl (r_two) ?_
      rintro _ w11 ⟨rfl, hl5⟩
      refine ⟨trivial, ?_⟩
      refine LZ ?_
      refine F_seq ?_
      refine W_cond rfl (fun c8 => ?_) (fun c8 => ?_)
      · -- c8 yes
       have hb2 : twoR x = true := c8
       simp only [hb2, if_true] at hsum
       refine W_seq ?_
       refine W_reg (.pure 0 (.pure 1 (.pure 2 (.one 3 (.pure 4 (.pure 5 (.one 6 .nil))))))) rfl ?_
       refine LP rfl rfl rfl (xmv rfl) ?_
       refine LP rfl rfl rfl (xmv rfl) ?_
       obtain ⟨y1, hy1⟩ : ∃ y, b[n + 2]? = some y := ⟨_, List.getElem?_eq_getElem (by omega)⟩
       have hyr1 := hB y1 (List.mem_of_getElem? hy1)
       refine LP rfl rfl rfl (xix ((n + 1) + 1) un22 sz5 hb.sh rfl rfl (by omega) (by omega)) ?_
       have le6 : Le w w10 := (hq6.le (le5.trans hl4) (inc (Nat.le_trans hl1.size hl2.size) hb6z inn))
       refine LX rfl rfl rfl (xle1 sc5 (RdE.le (le6.trans hl5) hb) hy1 rfl rfl) trivial ?_
       refine LP rfl rfl rfl (xcvn un5 un3 (IntWalk.i64_in _ (by omega)) rfl) ?_
       refine LP rfl rfl rfl (xfa fa145_3 rfl) ?_
       refine LU rfl rfl (xsb sz3 (Le.bk hl5 hb8) rfl rfl (int_cells _ _) rfl rfl (al_cons rfl al_nil)) ?_
       rintro w12 ⟨hq7, hb9⟩
       dsimp only [put] at hb9
       refine ⟨trivial, ?_⟩
       refine LZ ?_
       refine F_seq ?_
       refine W_reg (.pure 0 (.pure 1 (.pure 2 .nil))) rfl ?_
       refine LP rfl rfl rfl (xmv rfl) ?_
       refine LP rfl rfl rfl (xaddn rfl rfl (by omega)) ?_
       refine LP rfl rfl rfl (xas rfl) ?_
       refine LZ ?_
       refine F_seq ?_
       refine W_seq ?_
       refine W_reg (.pure 0 (.one 1 (.one 2 (.pure 3 .nil)))) rfl ?_
       refine LP rfl rfl rfl (xfa fa145_1 rfl) ?_
       refine LX rfl rfl rfl (xld sc3 rfl (cl_bk hb9 rfl)) trivial ?_
       refine LF rfl rfl rfl has126 rfl (r_wide) ?_
       rintro _ w13 ⟨rfl, hl6⟩
       refine ⟨trivial, ?_⟩
       refine LP rfl rfl rfl (xas rfl) ?_
       refine LZ ?_
       refine F_seq ?_
       refine W_seq ?_
       refine W_seq ?_
       refine W_reg (.pure 0 (.pure 1 .nil)) rfl ?_
       refine LP rfl rfl rfl (xmv rfl) ?_
       refine LP rfl rfl rfl (xgeq rfl rfl) ?_
       refine LZ ?_
       refine F_seq ?_
       refine W_cond rfl (fun c9 => ?_) (fun c9 => ?_)
       · -- c9 yes
        replace c9 := of_decide_eq_true c9
        refine W_reg (.pure 0 (.pure 1 (.pure 2 (.one 3 (.pure 4 (.pure 5 (.one 6 .nil))))))) rfl ?_
        refine LP rfl rfl rfl (xmv rfl) ?_
        refine LP rfl rfl rfl (xmv rfl) ?_
        obtain ⟨y2, hy2⟩ : ∃ y, b[n + 3]? = some y := ⟨_, List.getElem?_eq_getElem (by omega)⟩
        have hyr2 := hB y2 (List.mem_of_getElem? hy2)
        refine LP rfl rfl rfl (xix (((n + 1) + 1) + 1) un22 sz5 hb.sh rfl rfl (by omega) (by omega)) ?_
        have le7 : Le w w12 := (hq7.le (le6.trans hl5) (inc (Nat.le_trans hl1.size hl2.size) hb6z inn))
        refine LX rfl rfl rfl (xle1 sc5 (RdE.le (le7.trans hl6) hb) hy2 rfl rfl) trivial ?_
        refine LP rfl rfl rfl (xcvn un5 un2 (IntWalk.i64_in _ (by omega)) rfl) ?_
        refine LP rfl rfl rfl (xfa fa145_4 rfl) ?_
        refine LU rfl rfl (xsb sz2 (Le.bk hl6 hb9) rfl rfl (int_cells _ _) rfl rfl (al_cons rfl al_nil)) ?_
        rintro w14 ⟨hq8, hb10⟩
        dsimp only [put] at hb10
        refine ⟨trivial, ?_⟩
        refine LZ ?_
        refine F_seq ?_
        refine W_seq ?_
        refine W_seq ?_
        refine W_reg (.pure 0 (.pure 1 .nil)) rfl ?_
        refine LP rfl rfl rfl (xmv rfl) ?_
        refine LP rfl rfl rfl (xeql rfl rfl) ?_
        refine LZ ?_
        refine F_seq ?_
        refine W_cond rfl (fun c10 => ?_) (fun c10 => ?_)
        · -- c10 yes
         replace c10 := of_decide_eq_true c10
         have hwv : wideR x = 2 := by omega
         refine W_seq ?_
         refine W_draw (.pure 0 (.still 1 (.pure 2 (.pure 3 (.pure 4 (.pure 5 (.still 6 (.pure 7 (.pure 8 (.pure 9 (.pure 10 (.tail 11 .nil)))))))))))) (Le w14) hfol (by kernel_rfl) (pkt (pkt pkB)) (Le.drew _) ?_
         refine LP rfl rfl rfl (xfa fa145_4 rfl) ?_
         refine LS rfl rfl rfl (fun w' hw' => (xld sc2 rfl (cl_bk (Le.bk hw' hb10) rfl))) ?_
         refine LP rfl rfl rfl (xmv rfl) ?_
         refine LP rfl rfl rfl (xmv rfl) ?_
         refine LP rfl rfl rfl (xaddn rfl rfl (by omega)) ?_
         obtain ⟨y3, hy3⟩ : ∃ y, b[n + 4]? = some y := ⟨_, List.getElem?_eq_getElem (by omega)⟩
         have hyr3 := hB y3 (List.mem_of_getElem? hy3)
         refine LP rfl rfl rfl (xix ((((n + 1) + 1) + 1) + 1) un22 sz5 hb.sh rfl rfl (by omega) (by omega)) ?_
         have le8 : Le w w14 := (hq8.le (le7.trans hl6) (inc (Nat.le_trans hl1.size hl2.size) hb6z inn))
         refine LS rfl rfl rfl (fun w' hw' => (xle1 sc5 (RdE.le (le8.trans hw') hb) hy3 rfl rfl)) ?_
         refine LP rfl rfl rfl (xcvn un5 un2 (IntWalk.i64_in _ (by omega)) rfl) ?_
         refine LP rfl rfl rfl (xmuln rfl rfl (by omega)) ?_
         refine LP rfl rfl rfl (xaddn rfl rfl (by omega)) ?_
         refine LP rfl rfl rfl (xfa fa145_4 rfl) ?_
         refine LUt rfl rfl (xsb sz2 (Le.bk (Le.drew w14) hb10) rfl rfl (int_cells _ _) rfl rfl (al_cons rfl al_nil)) ?_
         rintro w15 ⟨hq9, hb11⟩
         dsimp only [put] at hb11
         refine LZ ?_
         refine F_seq ?_
         refine W_seq ?_
         refine W_reg (.pure 0 (.one 1 (.pure 2 (.pure 3 (.pure 4 (.one 5 (.pure 6 (.pure 7 .nil)))))))) rfl ?_
         refine LP rfl rfl rfl (xfa fa145_1 rfl) ?_
         refine LX rfl rfl rfl (xld sc3 rfl (cl_bk hb11 rfl)) trivial ?_
         refine LP rfl rfl rfl (xeql rfl rfl) ?_
         refine LP rfl rfl rfl (xmv rfl) ?_
         refine L_split (t := 96) rfl (fun c11 => ?_) (fun c11 => ?_)
         · -- c11 yes
          replace c11 := of_decide_eq_true c11
          have hh : x = 1 := c11
          exact absurd hh (fun e => by rw [e] at ha hb2; first | exact absurd ha (by decide) | exact absurd hb2 (by decide))
         · -- c11 no
          replace c11 := of_decide_eq_false c11
          refine LN rfl rfl rfl ?_
          refine LNo rfl rfl rfl trivial ?_
          refine LN rfl rfl rfl ?_
          refine LP rfl rfl rfl (xpk0 rfl rfl) ?_
          refine LZ ?_
          refine F_seq ?_
          refine W_else rfl ?_
          refine W_skip ?_
          refine F_seq ?_
          refine W_seq ?_
          refine W_seq ?_
          refine W_reg (.one 0 (.one 1 (.pure 2 .nil))) rfl ?_
          refine LX rfl rfl rfl (xlb5 ag145 hb11 rfl rfl rfl rfl rfl rfl) trivial ?_
          refine LF rfl rfl rfl has127 rfl (r_index (x := ((n : Int), x, y0, y1, (y2 + ((256 : Int) * y3))))) ?_
          rintro _ w16 ⟨rfl, hl7⟩
          refine ⟨trivial, ?_⟩
          refine LP rfl rfl rfl (xas rfl) ?_
          refine LZ ?_
          refine F_seq ?_
          refine W_seq ?_
          refine W_reg (.pure 0 (.pure 1 .nil)) rfl ?_
          refine LP rfl rfl rfl (xmv rfl) ?_
          refine LP rfl rfl rfl (xneq rfl rfl) ?_
          refine LZ ?_
          refine F_seq ?_
          refine W_cond rfl (fun c13 => ?_) (fun c13 => ?_)
          · -- c13 yes
           try simp only [Bool.not_eq_true', Bool.not_eq_false', decide_eq_true_eq, decide_eq_false_iff_not] at c13
           have hbad : badR ((n : Int), x, y0, y1, (y2 + ((256 : Int) * y3))) = true := by cases hq : badR ((n : Int), x, y0, y1, (y2 + ((256 : Int) * y3))) <;> simp [hq] at c13 ⊢
           have hbad0 := hbad
           refine W_seq ?_
           refine W_reg (.pure 0 (.pure 1 (.one 2 (.pure 3 (.pure 4 .nil))))) rfl ?_
           refine LP rfl rfl rfl (xbd rfl (bd145_ ())) ?_
           refine LP rfl rfl rfl (xmv rfl) ?_
           have le9 : Le w1 w8 := (hq5.le (hl2.trans hl3) (inc hl2.size hb6z inn))
           have le10 : Le w1 w10 := (hq6.le (le9.trans hl4) (inc hl2.size hb6z inn))
           have le11 : Le w1 w12 := (hq7.le (le10.trans hl5) (inc hl2.size hb6z inn))
           have le12 : Le w1 w14 := (hq8.le (le11.trans hl6) (inc hl2.size hb6z inn))
           have le13 : Le w1 w15 := (hq9.le (le12.trans (Le.drew w14)) (inc hl2.size hb6z inn))
           refine LU rfl rfl (xsb sz145 (Le.bk (le13.trans hl7) hb1) rfl rfl (agg_cells _) rfl rfl (al_cons rfl (al_cons rfl (al_cons rfl (al_cons rfl (al_cons rfl al_nil)))))) ?_
           rintro w17 ⟨hq10, hb12⟩
           dsimp only [put] at hb12
           have hk1 := hq10.bk (ni_new hb6z (Nat.lt_of_lt_of_le (bk_lt hb1) hl2.size) ni_nil) (Le.bk hl7 hb11)
           refine ⟨trivial, ?_⟩
           refine LP rfl rfl rfl (xas rfl) ?_
           refine LP rfl rfl rfl (xas rfl) ?_
           refine LZ ?_
           refine F_seq ?_
           refine W_ret ?_
           refine F_ret_then ?_
           have hrd : readR b n x = ((n : Int), x, y0, y1, (y2 + ((256 : Int) * y3))) := by simp [readR, immR, placeB, placeI, getD_of, short_u16, short_i16, first1, two1, wide1, *]
           rw [← hrd] at hbad
           have e := (one_at hx).trans ((if_neg (by omega)).trans (if_pos hbad))
           have le14 : Le w w15 := (hq9.le (le8.trans (Le.drew w14)) (inc (Nat.le_trans hl1.size hl2.size) hb6z inn))
           have le15 : Le w w17 := (hq10.le (le14.trans hl7) (inc (Nat.le_refl _) hb1z inn))
           exact F_endR (rs := [.cell 4 145, .tmp 5, .tmp 6]) rfl (.cell rfl (run_ld0 ag145 hb12 rfl) (.tmp rfl (.tmp rfl .nil))) rfl ⟨_, rfl, by rw [e, hbad0]; rfl, le15⟩
          · -- c13 no
           try simp only [Bool.not_eq_true', Bool.not_eq_false', decide_eq_true_eq, decide_eq_false_iff_not] at c13
           have hbad : badR ((n : Int), x, y0, y1, (y2 + ((256 : Int) * y3))) = false := by cases hq : badR ((n : Int), x, y0, y1, (y2 + ((256 : Int) * y3))) <;> simp [hq] at c13 ⊢
           have hbad0 := hbad
           refine W_skip ?_
           refine F_seq ?_
           refine W_seq ?_
           refine W_reg (.one 0 (.pure 1 (.pure 2 (.pure 3 (.one 4 (.pure 5 (.pure 6 .nil))))))) rfl ?_
           refine LX rfl rfl rfl (xlb5 ag145 (Le.bk hl7 hb11) rfl rfl rfl rfl rfl rfl) trivial ?_
           refine LP rfl rfl rfl (xmv rfl) ?_
           refine LP rfl rfl rfl (xmv rfl) ?_
           refine LP rfl rfl rfl (xaddn rfl rfl (by omega)) ?_
           have le16 : Le w1 w8 := (hq5.le (hl2.trans hl3) (inc hl2.size hb6z inn))
           have le17 : Le w1 w10 := (hq6.le (le16.trans hl4) (inc hl2.size hb6z inn))
           have le18 : Le w1 w12 := (hq7.le (le17.trans hl5) (inc hl2.size hb6z inn))
           have le19 : Le w1 w14 := (hq8.le (le18.trans hl6) (inc hl2.size hb6z inn))
           have le20 : Le w1 w15 := (hq9.le (le19.trans (Le.drew w14)) (inc hl2.size hb6z inn))
           refine LU rfl rfl (xsb sz145 (Le.bk (le20.trans hl7) hb1) rfl rfl (agg_cells [.int .i64 ((n : Int), x, y0, y1, (y2 + ((256 : Int) * y3))).1, .int .i64 ((n : Int), x, y0, y1, (y2 + ((256 : Int) * y3))).2.1, .int .i64 ((n : Int), x, y0, y1, (y2 + ((256 : Int) * y3))).2.2.1, .int .i64 ((n : Int), x, y0, y1, (y2 + ((256 : Int) * y3))).2.2.2.1, .int .i64 ((n : Int), x, y0, y1, (y2 + ((256 : Int) * y3))).2.2.2.2]) rfl rfl (al_cons rfl (al_cons rfl (al_cons rfl (al_cons rfl (al_cons rfl al_nil)))))) ?_
           rintro w18 ⟨hq11, hb13⟩
           dsimp only [put] at hb13
           have hk2 := hq11.bk (ni_new hb6z (Nat.lt_of_lt_of_le (bk_lt hb1) hl2.size) ni_nil) (Le.bk hl7 hb11)
           refine ⟨trivial, ?_⟩
           refine LP rfl rfl rfl (xas rfl) ?_
           refine LP rfl rfl rfl (xas rfl) ?_
           refine LZ ?_
           refine F_seq ?_
           refine W_ret ?_
           have hrd : readR b n x = ((n : Int), x, y0, y1, (y2 + ((256 : Int) * y3))) := by simp [readR, immR, placeB, placeI, getD_of, short_u16, short_i16, first1, two1, wide1, *]
           rw [← hrd] at hbad
           have e0 := (one_at hx).trans ((if_neg (by omega)).trans (if_neg (by simpa using hbad)))
           rw [hrd] at e0
           have e := e0
           have le21 : Le w w15 := (hq9.le (le8.trans (Le.drew w14)) (inc (Nat.le_trans hl1.size hl2.size) hb6z inn))
           have le22 : Le w w18 := (hq11.le (le21.trans hl7) (inc (Nat.le_refl _) hb1z inn))
           exact F_endR (rs := [.cell 4 145, .tmp 5, .tmp 6]) rfl (.cell rfl (run_ld0 ag145 hb13 rfl) (.tmp rfl (.tmp rfl .nil))) rfl ⟨_, rfl, by rw [e]; rfl, le22⟩
        · -- c10 no
         replace c10 := of_decide_eq_false c10
         have hwv : wideR x = 1 := by omega
         refine W_skip ?_
         refine F_seq ?_
         refine W_seq ?_
         refine W_seq ?_
         refine W_reg (.one 0 (.one 1 (.pure 2 .nil))) rfl ?_
         refine LX rfl rfl rfl (xlb5 ag145 hb10 rfl rfl rfl rfl rfl rfl) trivial ?_
         refine LF rfl rfl rfl has127 rfl (r_index (x := ((n : Int), x, y0, y1, y2))) ?_
         rintro _ w19 ⟨rfl, hl8⟩
         refine ⟨trivial, ?_⟩
         refine LP rfl rfl rfl (xas rfl) ?_
         refine LZ ?_
         refine F_seq ?_
         refine W_seq ?_
         refine W_reg (.pure 0 (.pure 1 .nil)) rfl ?_
         refine LP rfl rfl rfl (xmv rfl) ?_
         refine LP rfl rfl rfl (xneq rfl rfl) ?_
         refine LZ ?_
         refine F_seq ?_
         refine W_cond rfl (fun c14 => ?_) (fun c14 => ?_)
         · -- c14 yes
          try simp only [Bool.not_eq_true', Bool.not_eq_false', decide_eq_true_eq, decide_eq_false_iff_not] at c14
          have hbad : badR ((n : Int), x, y0, y1, y2) = true := by cases hq : badR ((n : Int), x, y0, y1, y2) <;> simp [hq] at c14 ⊢
          have hbad0 := hbad
          refine W_seq ?_
          refine W_reg (.pure 0 (.pure 1 (.one 2 (.pure 3 (.pure 4 .nil))))) rfl ?_
          refine LP rfl rfl rfl (xbd rfl (bd145_ ())) ?_
          refine LP rfl rfl rfl (xmv rfl) ?_
          have le23 : Le w1 w8 := (hq5.le (hl2.trans hl3) (inc hl2.size hb6z inn))
          have le24 : Le w1 w10 := (hq6.le (le23.trans hl4) (inc hl2.size hb6z inn))
          have le25 : Le w1 w12 := (hq7.le (le24.trans hl5) (inc hl2.size hb6z inn))
          have le26 : Le w1 w14 := (hq8.le (le25.trans hl6) (inc hl2.size hb6z inn))
          refine LU rfl rfl (xsb sz145 (Le.bk (le26.trans hl8) hb1) rfl rfl (agg_cells _) rfl rfl (al_cons rfl (al_cons rfl (al_cons rfl (al_cons rfl (al_cons rfl al_nil)))))) ?_
          rintro w20 ⟨hq12, hb14⟩
          dsimp only [put] at hb14
          have hk3 := hq12.bk (ni_new hb6z (Nat.lt_of_lt_of_le (bk_lt hb1) hl2.size) ni_nil) (Le.bk hl8 hb10)
          refine ⟨trivial, ?_⟩
          refine LP rfl rfl rfl (xas rfl) ?_
          refine LP rfl rfl rfl (xas rfl) ?_
          refine LZ ?_
          refine F_seq ?_
          refine W_ret ?_
          refine F_ret_then ?_
          have hrd : readR b n x = ((n : Int), x, y0, y1, y2) := by simp [readR, immR, placeB, placeI, getD_of, short_u16, short_i16, first1, two1, wide1, *]
          rw [← hrd] at hbad
          have e := (one_at hx).trans ((if_neg (by omega)).trans (if_pos hbad))
          have le27 : Le w w14 := (hq8.le (le7.trans hl6) (inc (Nat.le_trans hl1.size hl2.size) hb6z inn))
          have le28 : Le w w20 := (hq12.le (le27.trans hl8) (inc (Nat.le_refl _) hb1z inn))
          exact F_endR (rs := [.cell 4 145, .tmp 5, .tmp 6]) rfl (.cell rfl (run_ld0 ag145 hb14 rfl) (.tmp rfl (.tmp rfl .nil))) rfl ⟨_, rfl, by rw [e, hbad0]; rfl, le28⟩
         · -- c14 no
          try simp only [Bool.not_eq_true', Bool.not_eq_false', decide_eq_true_eq, decide_eq_false_iff_not] at c14
          have hbad : badR ((n : Int), x, y0, y1, y2) = false := by cases hq : badR ((n : Int), x, y0, y1, y2) <;> simp [hq] at c14 ⊢
          have hbad0 := hbad
          refine W_skip ?_
          refine F_seq ?_
          refine W_seq ?_
          refine W_reg (.one 0 (.pure 1 (.pure 2 (.pure 3 (.one 4 (.pure 5 (.pure 6 .nil))))))) rfl ?_
          refine LX rfl rfl rfl (xlb5 ag145 (Le.bk hl8 hb10) rfl rfl rfl rfl rfl rfl) trivial ?_
          refine LP rfl rfl rfl (xmv rfl) ?_
          refine LP rfl rfl rfl (xmv rfl) ?_
          refine LP rfl rfl rfl (xaddn rfl rfl (by omega)) ?_
          have le29 : Le w1 w8 := (hq5.le (hl2.trans hl3) (inc hl2.size hb6z inn))
          have le30 : Le w1 w10 := (hq6.le (le29.trans hl4) (inc hl2.size hb6z inn))
          have le31 : Le w1 w12 := (hq7.le (le30.trans hl5) (inc hl2.size hb6z inn))
          have le32 : Le w1 w14 := (hq8.le (le31.trans hl6) (inc hl2.size hb6z inn))
          refine LU rfl rfl (xsb sz145 (Le.bk (le32.trans hl8) hb1) rfl rfl (agg_cells [.int .i64 ((n : Int), x, y0, y1, y2).1, .int .i64 ((n : Int), x, y0, y1, y2).2.1, .int .i64 ((n : Int), x, y0, y1, y2).2.2.1, .int .i64 ((n : Int), x, y0, y1, y2).2.2.2.1, .int .i64 ((n : Int), x, y0, y1, y2).2.2.2.2]) rfl rfl (al_cons rfl (al_cons rfl (al_cons rfl (al_cons rfl (al_cons rfl al_nil)))))) ?_
          rintro w21 ⟨hq13, hb15⟩
          dsimp only [put] at hb15
          have hk4 := hq13.bk (ni_new hb6z (Nat.lt_of_lt_of_le (bk_lt hb1) hl2.size) ni_nil) (Le.bk hl8 hb10)
          refine ⟨trivial, ?_⟩
          refine LP rfl rfl rfl (xas rfl) ?_
          refine LP rfl rfl rfl (xas rfl) ?_
          refine LZ ?_
          refine F_seq ?_
          refine W_ret ?_
          have hrd : readR b n x = ((n : Int), x, y0, y1, y2) := by simp [readR, immR, placeB, placeI, getD_of, short_u16, short_i16, first1, two1, wide1, *]
          rw [← hrd] at hbad
          have e0 := (one_at hx).trans ((if_neg (by omega)).trans (if_neg (by simpa using hbad)))
          rw [hrd] at e0
          have e := e0
          have le33 : Le w w14 := (hq8.le (le7.trans hl6) (inc (Nat.le_trans hl1.size hl2.size) hb6z inn))
          have le34 : Le w w21 := (hq13.le (le33.trans hl8) (inc (Nat.le_refl _) hb1z inn))
          exact F_endR (rs := [.cell 4 145, .tmp 5, .tmp 6]) rfl (.cell rfl (run_ld0 ag145 hb15 rfl) (.tmp rfl (.tmp rfl .nil))) rfl ⟨_, rfl, by rw [e]; rfl, le34⟩
       · -- c9 no
        replace c9 := of_decide_eq_false c9
        have hwv : wideR x = 0 := by omega
        refine W_skip ?_
        refine F_seq ?_
        refine W_seq ?_
        refine W_seq ?_
        refine W_reg (.pure 0 (.pure 1 .nil)) rfl ?_
        refine LP rfl rfl rfl (xmv rfl) ?_
        refine LP rfl rfl rfl (xeql rfl rfl) ?_
        refine LZ ?_
        refine F_seq ?_
        refine W_cond rfl (fun c15 => ?_) (fun c15 => ?_)
        · -- c15 yes
         replace c15 := of_decide_eq_true c15
         have hwv : wideR x = 2 := by omega
         exfalso; omega
        · -- c15 no
         replace c15 := of_decide_eq_false c15
         refine W_skip ?_
         refine F_seq ?_
         refine W_seq ?_
         refine W_seq ?_
         refine W_reg (.one 0 (.one 1 (.pure 2 .nil))) rfl ?_
         refine LX rfl rfl rfl (xlb5 ag145 (Le.bk hl6 hb9) rfl rfl rfl rfl rfl rfl) trivial ?_
         refine LF rfl rfl rfl has127 rfl (r_index (x := ((n : Int), x, y0, y1, 0))) ?_
         rintro _ w22 ⟨rfl, hl9⟩
         refine ⟨trivial, ?_⟩
         refine LP rfl rfl rfl (xas rfl) ?_
         refine LZ ?_
         refine F_seq ?_
         refine W_seq ?_
         refine W_reg (.pure 0 (.pure 1 .nil)) rfl ?_
         refine LP rfl rfl rfl (xmv rfl) ?_
         refine LP rfl rfl rfl (xneq rfl rfl) ?_
         refine LZ ?_
         refine F_seq ?_
         refine W_cond rfl (fun c16 => ?_) (fun c16 => ?_)
         · -- c16 yes
          try simp only [Bool.not_eq_true', Bool.not_eq_false', decide_eq_true_eq, decide_eq_false_iff_not] at c16
          have hbad : badR ((n : Int), x, y0, y1, 0) = true := by cases hq : badR ((n : Int), x, y0, y1, 0) <;> simp [hq] at c16 ⊢
          have hbad0 := hbad
          refine W_seq ?_
          refine W_reg (.pure 0 (.pure 1 (.one 2 (.pure 3 (.pure 4 .nil))))) rfl ?_
          refine LP rfl rfl rfl (xbd rfl (bd145_ ())) ?_
          refine LP rfl rfl rfl (xmv rfl) ?_
          have le35 : Le w1 w8 := (hq5.le (hl2.trans hl3) (inc hl2.size hb6z inn))
          have le36 : Le w1 w10 := (hq6.le (le35.trans hl4) (inc hl2.size hb6z inn))
          have le37 : Le w1 w12 := (hq7.le (le36.trans hl5) (inc hl2.size hb6z inn))
          refine LU rfl rfl (xsb sz145 (Le.bk (le37.trans (hl6.trans hl9)) hb1) rfl rfl (agg_cells _) rfl rfl (al_cons rfl (al_cons rfl (al_cons rfl (al_cons rfl (al_cons rfl al_nil)))))) ?_
          rintro w23 ⟨hq14, hb16⟩
          dsimp only [put] at hb16
          have hk5 := hq14.bk (ni_new hb6z (Nat.lt_of_lt_of_le (bk_lt hb1) hl2.size) ni_nil) (Le.bk (hl6.trans hl9) hb9)
          refine ⟨trivial, ?_⟩
          refine LP rfl rfl rfl (xas rfl) ?_
          refine LP rfl rfl rfl (xas rfl) ?_
          refine LZ ?_
          refine F_seq ?_
          refine W_ret ?_
          refine F_ret_then ?_
          have hrd : readR b n x = ((n : Int), x, y0, y1, 0) := by simp [readR, immR, placeB, placeI, getD_of, short_u16, short_i16, first1, two1, wide1, *]
          rw [← hrd] at hbad
          have e := (one_at hx).trans ((if_neg (by omega)).trans (if_pos hbad))
          have le38 : Le w w12 := (hq7.le (le6.trans hl5) (inc (Nat.le_trans hl1.size hl2.size) hb6z inn))
          have le39 : Le w w23 := (hq14.le (le38.trans (hl6.trans hl9)) (inc (Nat.le_refl _) hb1z inn))
          exact F_endR (rs := [.cell 4 145, .tmp 5, .tmp 6]) rfl (.cell rfl (run_ld0 ag145 hb16 rfl) (.tmp rfl (.tmp rfl .nil))) rfl ⟨_, rfl, by rw [e, hbad0]; rfl, le39⟩
         · -- c16 no
          try simp only [Bool.not_eq_true', Bool.not_eq_false', decide_eq_true_eq, decide_eq_false_iff_not] at c16
          have hbad : badR ((n : Int), x, y0, y1, 0) = false := by cases hq : badR ((n : Int), x, y0, y1, 0) <;> simp [hq] at c16 ⊢
          have hbad0 := hbad
          refine W_skip ?_
          refine F_seq ?_
          refine W_seq ?_
          refine W_reg (.one 0 (.pure 1 (.pure 2 (.pure 3 (.one 4 (.pure 5 (.pure 6 .nil))))))) rfl ?_
          refine LX rfl rfl rfl (xlb5 ag145 (Le.bk (hl6.trans hl9) hb9) rfl rfl rfl rfl rfl rfl) trivial ?_
          refine LP rfl rfl rfl (xmv rfl) ?_
          refine LP rfl rfl rfl (xmv rfl) ?_
          refine LP rfl rfl rfl (xaddn rfl rfl (by omega)) ?_
          have le40 : Le w1 w8 := (hq5.le (hl2.trans hl3) (inc hl2.size hb6z inn))
          have le41 : Le w1 w10 := (hq6.le (le40.trans hl4) (inc hl2.size hb6z inn))
          have le42 : Le w1 w12 := (hq7.le (le41.trans hl5) (inc hl2.size hb6z inn))
          refine LU rfl rfl (xsb sz145 (Le.bk (le42.trans (hl6.trans hl9)) hb1) rfl rfl (agg_cells [.int .i64 ((n : Int), x, y0, y1, 0).1, .int .i64 ((n : Int), x, y0, y1, 0).2.1, .int .i64 ((n : Int), x, y0, y1, 0).2.2.1, .int .i64 ((n : Int), x, y0, y1, 0).2.2.2.1, .int .i64 ((n : Int), x, y0, y1, 0).2.2.2.2]) rfl rfl (al_cons rfl (al_cons rfl (al_cons rfl (al_cons rfl (al_cons rfl al_nil)))))) ?_
          rintro w24 ⟨hq15, hb17⟩
          dsimp only [put] at hb17
          have hk6 := hq15.bk (ni_new hb6z (Nat.lt_of_lt_of_le (bk_lt hb1) hl2.size) ni_nil) (Le.bk (hl6.trans hl9) hb9)
          refine ⟨trivial, ?_⟩
          refine LP rfl rfl rfl (xas rfl) ?_
          refine LP rfl rfl rfl (xas rfl) ?_
          refine LZ ?_
          refine F_seq ?_
          refine W_ret ?_
          have hrd : readR b n x = ((n : Int), x, y0, y1, 0) := by simp [readR, immR, placeB, placeI, getD_of, short_u16, short_i16, first1, two1, wide1, *]
          rw [← hrd] at hbad
          have e0 := (one_at hx).trans ((if_neg (by omega)).trans (if_neg (by simpa using hbad)))
          rw [hrd] at e0
          have e := e0
          have le43 : Le w w12 := (hq7.le (le6.trans hl5) (inc (Nat.le_trans hl1.size hl2.size) hb6z inn))
          have le44 : Le w w24 := (hq15.le (le43.trans (hl6.trans hl9)) (inc (Nat.le_refl _) hb1z inn))
          exact F_endR (rs := [.cell 4 145, .tmp 5, .tmp 6]) rfl (.cell rfl (run_ld0 ag145 hb17 rfl) (.tmp rfl (.tmp rfl .nil))) rfl ⟨_, rfl, by rw [e]; rfl, le44⟩
      · -- c8 no
       have hb2 : twoR x = false := c8
       simp only [hb2, Bool.false_eq_true, if_false] at hsum
       refine W_skip ?_
       refine F_seq ?_
       refine W_seq ?_
       refine W_reg (.pure 0 (.one 1 (.one 2 (.pure 3 .nil)))) rfl ?_
       refine LP rfl rfl rfl (xfa fa145_1 rfl) ?_
       refine LX rfl rfl rfl (xld sc3 rfl (cl_bk (Le.bk hl5 hb8) rfl)) trivial ?_
       refine LF rfl rfl rfl has126 rfl (r_wide) ?_
       rintro _ w25 ⟨rfl, hl10⟩
       refine ⟨trivial, ?_⟩
       refine LP rfl rfl rfl (xas rfl) ?_
       refine LZ ?_
       refine F_seq ?_
       refine W_seq ?_
       refine W_seq ?_
       refine W_reg (.pure 0 (.pure 1 .nil)) rfl ?_
       refine LP rfl rfl rfl (xmv rfl) ?_
       refine LP rfl rfl rfl (xgeq rfl rfl) ?_
       refine LZ ?_
       refine F_seq ?_
       refine W_cond rfl (fun c17 => ?_) (fun c17 => ?_)
       · -- c17 yes
        replace c17 := of_decide_eq_true c17
        refine W_reg (.pure 0 (.pure 1 (.pure 2 (.one 3 (.pure 4 (.pure 5 (.one 6 .nil))))))) rfl ?_
        refine LP rfl rfl rfl (xmv rfl) ?_
        refine LP rfl rfl rfl (xmv rfl) ?_
        obtain ⟨y1, hy1⟩ : ∃ y, b[n + 2]? = some y := ⟨_, List.getElem?_eq_getElem (by omega)⟩
        have hyr1 := hB y1 (List.mem_of_getElem? hy1)
        refine LP rfl rfl rfl (xix ((n + 1) + 1) un22 sz5 hb.sh rfl rfl (by omega) (by omega)) ?_
        have le45 : Le w w10 := (hq6.le (le5.trans hl4) (inc (Nat.le_trans hl1.size hl2.size) hb6z inn))
        refine LX rfl rfl rfl (xle1 sc5 (RdE.le (le45.trans (hl5.trans hl10)) hb) hy1 rfl rfl) trivial ?_
        refine LP rfl rfl rfl (xcvn un5 un2 (IntWalk.i64_in _ (by omega)) rfl) ?_
        refine LP rfl rfl rfl (xfa fa145_4 rfl) ?_
        refine LU rfl rfl (xsb sz2 (Le.bk (hl5.trans hl10) hb8) rfl rfl (int_cells _ _) rfl rfl (al_cons rfl al_nil)) ?_
        rintro w26 ⟨hq16, hb18⟩
        dsimp only [put] at hb18
        refine ⟨trivial, ?_⟩
        refine LZ ?_
        refine F_seq ?_
        refine W_seq ?_
        refine W_seq ?_
        refine W_reg (.pure 0 (.pure 1 .nil)) rfl ?_
        refine LP rfl rfl rfl (xmv rfl) ?_
        refine LP rfl rfl rfl (xeql rfl rfl) ?_
        refine LZ ?_
        refine F_seq ?_
        refine W_cond rfl (fun c18 => ?_) (fun c18 => ?_)
        · -- c18 yes
         replace c18 := of_decide_eq_true c18
         have hwv : wideR x = 2 := by omega
         refine W_seq ?_
         refine W_draw (.pure 0 (.still 1 (.pure 2 (.pure 3 (.pure 4 (.pure 5 (.still 6 (.pure 7 (.pure 8 (.pure 9 (.pure 10 (.tail 11 .nil)))))))))))) (Le w26) hfol (by kernel_rfl) (pkt (pkt pkB)) (Le.drew _) ?_
         refine LP rfl rfl rfl (xfa fa145_4 rfl) ?_
         refine LS rfl rfl rfl (fun w' hw' => (xld sc2 rfl (cl_bk (Le.bk hw' hb18) rfl))) ?_
         refine LP rfl rfl rfl (xmv rfl) ?_
         refine LP rfl rfl rfl (xmv rfl) ?_
         refine LP rfl rfl rfl (xaddn rfl rfl (by omega)) ?_
         obtain ⟨y2, hy2⟩ : ∃ y, b[n + 3]? = some y := ⟨_, List.getElem?_eq_getElem (by omega)⟩
         have hyr2 := hB y2 (List.mem_of_getElem? hy2)
         refine LP rfl rfl rfl (xix (((n + 1) + 1) + 1) un22 sz5 hb.sh rfl rfl (by omega) (by omega)) ?_
         have le46 : Le w w26 := (hq16.le (le45.trans (hl5.trans hl10)) (inc (Nat.le_trans hl1.size hl2.size) hb6z inn))
         refine LS rfl rfl rfl (fun w' hw' => (xle1 sc5 (RdE.le (le46.trans hw') hb) hy2 rfl rfl)) ?_
         refine LP rfl rfl rfl (xcvn un5 un2 (IntWalk.i64_in _ (by omega)) rfl) ?_
         refine LP rfl rfl rfl (xmuln rfl rfl (by omega)) ?_
         refine LP rfl rfl rfl (xaddn rfl rfl (by omega)) ?_
         refine LP rfl rfl rfl (xfa fa145_4 rfl) ?_
         refine LUt rfl rfl (xsb sz2 (Le.bk (Le.drew w26) hb18) rfl rfl (int_cells _ _) rfl rfl (al_cons rfl al_nil)) ?_
         rintro w27 ⟨hq17, hb19⟩
         dsimp only [put] at hb19
         refine LZ ?_
         refine F_seq ?_
         refine W_seq ?_
         refine W_reg (.pure 0 (.one 1 (.pure 2 (.pure 3 (.pure 4 (.one 5 (.pure 6 (.pure 7 .nil)))))))) rfl ?_
         refine LP rfl rfl rfl (xfa fa145_1 rfl) ?_
         refine LX rfl rfl rfl (xld sc3 rfl (cl_bk hb19 rfl)) trivial ?_
         refine LP rfl rfl rfl (xeql rfl rfl) ?_
         refine LP rfl rfl rfl (xmv rfl) ?_
         refine L_split (t := 96) rfl (fun c19 => ?_) (fun c19 => ?_)
         · -- c19 yes
          replace c19 := of_decide_eq_true c19
          refine LP rfl rfl rfl (xfa fa145_4 rfl) ?_
          refine LX rfl rfl rfl (xld sc2 rfl (cl_bk hb19 rfl)) trivial ?_
          refine LP rfl rfl rfl (xgeq rfl rfl) ?_
          refine LP rfl rfl rfl (xpk1 rfl rfl) ?_
          refine LZ ?_
          refine F_seq ?_
          refine W_cond rfl (fun c20 => ?_) (fun c20 => ?_)
          · -- c20 yes
           replace c20 := of_decide_eq_true c20
           refine W_reg (.pure 0 (.one 1 (.pure 2 (.pure 3 (.one 4 .nil))))) rfl ?_
           refine LP rfl rfl rfl (xfa fa145_4 rfl) ?_
           refine LX rfl rfl rfl (xld sc2 rfl (cl_bk hb19 rfl)) trivial ?_
           refine LP rfl rfl rfl (xsubn rfl rfl (by omega)) ?_
           refine LP rfl rfl rfl (xfa fa145_4 rfl) ?_
           refine LU rfl rfl (xsb sz2 hb19 rfl rfl (int_cells _ _) rfl rfl (al_cons rfl al_nil)) ?_
           rintro w28 ⟨hq18, hb20⟩
           dsimp only [put] at hb20
           refine ⟨trivial, ?_⟩
           refine LZ ?_
           refine F_seq ?_
           refine W_seq ?_
           refine W_seq ?_
           refine W_reg (.one 0 (.one 1 (.pure 2 .nil))) rfl ?_
           refine LX rfl rfl rfl (xlb5 ag145 hb20 rfl rfl rfl rfl rfl rfl) trivial ?_
           refine LF rfl rfl rfl has127 rfl (r_index (x := ((n : Int), x, y0, 0, ((y1 + ((256 : Int) * y2)) - (65536 : Int))))) ?_
           rintro _ w29 ⟨rfl, hl11⟩
           refine ⟨trivial, ?_⟩
           refine LP rfl rfl rfl (xas rfl) ?_
           refine LZ ?_
           refine F_seq ?_
           refine W_seq ?_
           refine W_reg (.pure 0 (.pure 1 .nil)) rfl ?_
           refine LP rfl rfl rfl (xmv rfl) ?_
           refine LP rfl rfl rfl (xneq rfl rfl) ?_
           refine LZ ?_
           refine F_seq ?_
           refine W_cond rfl (fun c21 => ?_) (fun c21 => ?_)
           · -- c21 yes
            try simp only [Bool.not_eq_true', Bool.not_eq_false', decide_eq_true_eq, decide_eq_false_iff_not] at c21
            have hbad : badR ((n : Int), x, y0, 0, ((y1 + ((256 : Int) * y2)) - (65536 : Int))) = true := by cases hq : badR ((n : Int), x, y0, 0, ((y1 + ((256 : Int) * y2)) - (65536 : Int))) <;> simp [hq] at c21 ⊢
            have hbad0 := hbad
            refine W_seq ?_
            refine W_reg (.pure 0 (.pure 1 (.one 2 (.pure 3 (.pure 4 .nil))))) rfl ?_
            refine LP rfl rfl rfl (xbd rfl (bd145_ ())) ?_
            refine LP rfl rfl rfl (xmv rfl) ?_
            have le47 : Le w1 w8 := (hq5.le (hl2.trans hl3) (inc hl2.size hb6z inn))
            have le48 : Le w1 w10 := (hq6.le (le47.trans hl4) (inc hl2.size hb6z inn))
            have le49 : Le w1 w26 := (hq16.le (le48.trans (hl5.trans hl10)) (inc hl2.size hb6z inn))
            have le50 : Le w1 w27 := (hq17.le (le49.trans (Le.drew w26)) (inc hl2.size hb6z inn))
            have le51 : Le w1 w28 := (hq18.le le50 (inc hl2.size hb6z inn))
            refine LU rfl rfl (xsb sz145 (Le.bk (le51.trans hl11) hb1) rfl rfl (agg_cells _) rfl rfl (al_cons rfl (al_cons rfl (al_cons rfl (al_cons rfl (al_cons rfl al_nil)))))) ?_
            rintro w30 ⟨hq19, hb21⟩
            dsimp only [put] at hb21
            have hk7 := hq19.bk (ni_new hb6z (Nat.lt_of_lt_of_le (bk_lt hb1) hl2.size) ni_nil) (Le.bk hl11 hb20)
            refine ⟨trivial, ?_⟩
            refine LP rfl rfl rfl (xas rfl) ?_
            refine LP rfl rfl rfl (xas rfl) ?_
            refine LZ ?_
            refine F_seq ?_
            refine W_ret ?_
            refine F_ret_then ?_
            have hrd : readR b n x = ((n : Int), x, y0, 0, ((y1 + ((256 : Int) * y2)) - (65536 : Int))) := by simp [readR, immR, placeB, placeI, getD_of, short_u16, short_i16, first1, two1, wide1, *]
            rw [← hrd] at hbad
            have e := (one_at hx).trans ((if_neg (by omega)).trans (if_pos hbad))
            have le52 : Le w w27 := (hq17.le (le46.trans (Le.drew w26)) (inc (Nat.le_trans hl1.size hl2.size) hb6z inn))
            have le53 : Le w w28 := (hq18.le le52 (inc (Nat.le_trans hl1.size hl2.size) hb6z inn))
            have le54 : Le w w30 := (hq19.le (le53.trans hl11) (inc (Nat.le_refl _) hb1z inn))
            exact F_endR (rs := [.cell 4 145, .tmp 5, .tmp 6]) rfl (.cell rfl (run_ld0 ag145 hb21 rfl) (.tmp rfl (.tmp rfl .nil))) rfl ⟨_, rfl, by rw [e, hbad0]; rfl, le54⟩
           · -- c21 no
            try simp only [Bool.not_eq_true', Bool.not_eq_false', decide_eq_true_eq, decide_eq_false_iff_not] at c21
            have hbad : badR ((n : Int), x, y0, 0, ((y1 + ((256 : Int) * y2)) - (65536 : Int))) = false := by cases hq : badR ((n : Int), x, y0, 0, ((y1 + ((256 : Int) * y2)) - (65536 : Int))) <;> simp [hq] at c21 ⊢
            have hbad0 := hbad
            refine W_skip ?_
            refine F_seq ?_
            refine W_seq ?_
            refine W_reg (.one 0 (.pure 1 (.pure 2 (.pure 3 (.one 4 (.pure 5 (.pure 6 .nil))))))) rfl ?_
            refine LX rfl rfl rfl (xlb5 ag145 (Le.bk hl11 hb20) rfl rfl rfl rfl rfl rfl) trivial ?_
            refine LP rfl rfl rfl (xmv rfl) ?_
            refine LP rfl rfl rfl (xmv rfl) ?_
            refine LP rfl rfl rfl (xaddn rfl rfl (by omega)) ?_
            have le55 : Le w1 w8 := (hq5.le (hl2.trans hl3) (inc hl2.size hb6z inn))
            have le56 : Le w1 w10 := (hq6.le (le55.trans hl4) (inc hl2.size hb6z inn))
            have le57 : Le w1 w26 := (hq16.le (le56.trans (hl5.trans hl10)) (inc hl2.size hb6z inn))
            have le58 : Le w1 w27 := (hq17.le (le57.trans (Le.drew w26)) (inc hl2.size hb6z inn))
            have le59 : Le w1 w28 := (hq18.le le58 (inc hl2.size hb6z inn))
            refine LU rfl rfl (xsb sz145 (Le.bk (le59.trans hl11) hb1) rfl rfl (agg_cells [.int .i64 ((n : Int), x, y0, 0, ((y1 + ((256 : Int) * y2)) - (65536 : Int))).1, .int .i64 ((n : Int), x, y0, 0, ((y1 + ((256 : Int) * y2)) - (65536 : Int))).2.1, .int .i64 ((n : Int), x, y0, 0, ((y1 + ((256 : Int) * y2)) - (65536 : Int))).2.2.1, .int .i64 ((n : Int), x, y0, 0, ((y1 + ((256 : Int) * y2)) - (65536 : Int))).2.2.2.1, .int .i64 ((n : Int), x, y0, 0, ((y1 + ((256 : Int) * y2)) - (65536 : Int))).2.2.2.2]) rfl rfl (al_cons rfl (al_cons rfl (al_cons rfl (al_cons rfl (al_cons rfl al_nil)))))) ?_
            rintro w31 ⟨hq20, hb22⟩
            dsimp only [put] at hb22
            have hk8 := hq20.bk (ni_new hb6z (Nat.lt_of_lt_of_le (bk_lt hb1) hl2.size) ni_nil) (Le.bk hl11 hb20)
            refine ⟨trivial, ?_⟩
            refine LP rfl rfl rfl (xas rfl) ?_
            refine LP rfl rfl rfl (xas rfl) ?_
            refine LZ ?_
            refine F_seq ?_
            refine W_ret ?_
            have hrd : readR b n x = ((n : Int), x, y0, 0, ((y1 + ((256 : Int) * y2)) - (65536 : Int))) := by simp [readR, immR, placeB, placeI, getD_of, short_u16, short_i16, first1, two1, wide1, *]
            rw [← hrd] at hbad
            have e0 := (one_at hx).trans ((if_neg (by omega)).trans (if_neg (by simpa using hbad)))
            rw [hrd] at e0
            have e := e0
            have le60 : Le w w27 := (hq17.le (le46.trans (Le.drew w26)) (inc (Nat.le_trans hl1.size hl2.size) hb6z inn))
            have le61 : Le w w28 := (hq18.le le60 (inc (Nat.le_trans hl1.size hl2.size) hb6z inn))
            have le62 : Le w w31 := (hq20.le (le61.trans hl11) (inc (Nat.le_refl _) hb1z inn))
            exact F_endR (rs := [.cell 4 145, .tmp 5, .tmp 6]) rfl (.cell rfl (run_ld0 ag145 hb22 rfl) (.tmp rfl (.tmp rfl .nil))) rfl ⟨_, rfl, by rw [e]; rfl, le62⟩
          · -- c20 no
           replace c20 := of_decide_eq_false c20
           refine W_skip ?_
           refine F_seq ?_
           refine W_seq ?_
           refine W_seq ?_
           refine W_reg (.one 0 (.one 1 (.pure 2 .nil))) rfl ?_
           refine LX rfl rfl rfl (xlb5 ag145 hb19 rfl rfl rfl rfl rfl rfl) trivial ?_
           refine LF rfl rfl rfl has127 rfl (r_index (x := ((n : Int), x, y0, 0, (y1 + ((256 : Int) * y2))))) ?_
           rintro _ w32 ⟨rfl, hl12⟩
           refine ⟨trivial, ?_⟩
           refine LP rfl rfl rfl (xas rfl) ?_
           refine LZ ?_
           refine F_seq ?_
           refine W_seq ?_
           refine W_reg (.pure 0 (.pure 1 .nil)) rfl ?_
           refine LP rfl rfl rfl (xmv rfl) ?_
           refine LP rfl rfl rfl (xneq rfl rfl) ?_
           refine LZ ?_
           refine F_seq ?_
           refine W_cond rfl (fun c22 => ?_) (fun c22 => ?_)
           · -- c22 yes
            try simp only [Bool.not_eq_true', Bool.not_eq_false', decide_eq_true_eq, decide_eq_false_iff_not] at c22
            have hbad : badR ((n : Int), x, y0, 0, (y1 + ((256 : Int) * y2))) = true := by cases hq : badR ((n : Int), x, y0, 0, (y1 + ((256 : Int) * y2))) <;> simp [hq] at c22 ⊢
            have hbad0 := hbad
            refine W_seq ?_
            refine W_reg (.pure 0 (.pure 1 (.one 2 (.pure 3 (.pure 4 .nil))))) rfl ?_
            refine LP rfl rfl rfl (xbd rfl (bd145_ ())) ?_
            refine LP rfl rfl rfl (xmv rfl) ?_
            have le63 : Le w1 w8 := (hq5.le (hl2.trans hl3) (inc hl2.size hb6z inn))
            have le64 : Le w1 w10 := (hq6.le (le63.trans hl4) (inc hl2.size hb6z inn))
            have le65 : Le w1 w26 := (hq16.le (le64.trans (hl5.trans hl10)) (inc hl2.size hb6z inn))
            have le66 : Le w1 w27 := (hq17.le (le65.trans (Le.drew w26)) (inc hl2.size hb6z inn))
            refine LU rfl rfl (xsb sz145 (Le.bk (le66.trans hl12) hb1) rfl rfl (agg_cells _) rfl rfl (al_cons rfl (al_cons rfl (al_cons rfl (al_cons rfl (al_cons rfl al_nil)))))) ?_
            rintro w33 ⟨hq21, hb23⟩
            dsimp only [put] at hb23
            have hk9 := hq21.bk (ni_new hb6z (Nat.lt_of_lt_of_le (bk_lt hb1) hl2.size) ni_nil) (Le.bk hl12 hb19)
            refine ⟨trivial, ?_⟩
            refine LP rfl rfl rfl (xas rfl) ?_
            refine LP rfl rfl rfl (xas rfl) ?_
            refine LZ ?_
            refine F_seq ?_
            refine W_ret ?_
            refine F_ret_then ?_
            have hrd : readR b n x = ((n : Int), x, y0, 0, (y1 + ((256 : Int) * y2))) := by simp [readR, immR, placeB, placeI, getD_of, short_u16, short_i16, first1, two1, wide1, *]
            rw [← hrd] at hbad
            have e := (one_at hx).trans ((if_neg (by omega)).trans (if_pos hbad))
            have le67 : Le w w27 := (hq17.le (le46.trans (Le.drew w26)) (inc (Nat.le_trans hl1.size hl2.size) hb6z inn))
            have le68 : Le w w33 := (hq21.le (le67.trans hl12) (inc (Nat.le_refl _) hb1z inn))
            exact F_endR (rs := [.cell 4 145, .tmp 5, .tmp 6]) rfl (.cell rfl (run_ld0 ag145 hb23 rfl) (.tmp rfl (.tmp rfl .nil))) rfl ⟨_, rfl, by rw [e, hbad0]; rfl, le68⟩
           · -- c22 no
            try simp only [Bool.not_eq_true', Bool.not_eq_false', decide_eq_true_eq, decide_eq_false_iff_not] at c22
            have hbad : badR ((n : Int), x, y0, 0, (y1 + ((256 : Int) * y2))) = false := by cases hq : badR ((n : Int), x, y0, 0, (y1 + ((256 : Int) * y2))) <;> simp [hq] at c22 ⊢
            have hbad0 := hbad
            refine W_skip ?_
            refine F_seq ?_
            refine W_seq ?_
            refine W_reg (.one 0 (.pure 1 (.pure 2 (.pure 3 (.one 4 (.pure 5 (.pure 6 .nil))))))) rfl ?_
            refine LX rfl rfl rfl (xlb5 ag145 (Le.bk hl12 hb19) rfl rfl rfl rfl rfl rfl) trivial ?_
            refine LP rfl rfl rfl (xmv rfl) ?_
            refine LP rfl rfl rfl (xmv rfl) ?_
            refine LP rfl rfl rfl (xaddn rfl rfl (by omega)) ?_
            have le69 : Le w1 w8 := (hq5.le (hl2.trans hl3) (inc hl2.size hb6z inn))
            have le70 : Le w1 w10 := (hq6.le (le69.trans hl4) (inc hl2.size hb6z inn))
            have le71 : Le w1 w26 := (hq16.le (le70.trans (hl5.trans hl10)) (inc hl2.size hb6z inn))
            have le72 : Le w1 w27 := (hq17.le (le71.trans (Le.drew w26)) (inc hl2.size hb6z inn))
            refine LU rfl rfl (xsb sz145 (Le.bk (le72.trans hl12) hb1) rfl rfl (agg_cells [.int .i64 ((n : Int), x, y0, 0, (y1 + ((256 : Int) * y2))).1, .int .i64 ((n : Int), x, y0, 0, (y1 + ((256 : Int) * y2))).2.1, .int .i64 ((n : Int), x, y0, 0, (y1 + ((256 : Int) * y2))).2.2.1, .int .i64 ((n : Int), x, y0, 0, (y1 + ((256 : Int) * y2))).2.2.2.1, .int .i64 ((n : Int), x, y0, 0, (y1 + ((256 : Int) * y2))).2.2.2.2]) rfl rfl (al_cons rfl (al_cons rfl (al_cons rfl (al_cons rfl (al_cons rfl al_nil)))))) ?_
            rintro w34 ⟨hq22, hb24⟩
            dsimp only [put] at hb24
            have hk10 := hq22.bk (ni_new hb6z (Nat.lt_of_lt_of_le (bk_lt hb1) hl2.size) ni_nil) (Le.bk hl12 hb19)
            refine ⟨trivial, ?_⟩
            refine LP rfl rfl rfl (xas rfl) ?_
            refine LP rfl rfl rfl (xas rfl) ?_
            refine LZ ?_
            refine F_seq ?_
            refine W_ret ?_
            have hrd : readR b n x = ((n : Int), x, y0, 0, (y1 + ((256 : Int) * y2))) := by simp [readR, immR, placeB, placeI, getD_of, short_u16, short_i16, first1, two1, wide1, *]
            rw [← hrd] at hbad
            have e0 := (one_at hx).trans ((if_neg (by omega)).trans (if_neg (by simpa using hbad)))
            rw [hrd] at e0
            have e := e0
            have le73 : Le w w27 := (hq17.le (le46.trans (Le.drew w26)) (inc (Nat.le_trans hl1.size hl2.size) hb6z inn))
            have le74 : Le w w34 := (hq22.le (le73.trans hl12) (inc (Nat.le_refl _) hb1z inn))
            exact F_endR (rs := [.cell 4 145, .tmp 5, .tmp 6]) rfl (.cell rfl (run_ld0 ag145 hb24 rfl) (.tmp rfl (.tmp rfl .nil))) rfl ⟨_, rfl, by rw [e]; rfl, le74⟩
         · -- c19 no
          replace c19 := of_decide_eq_false c19
          refine LN rfl rfl rfl ?_
          refine LNo rfl rfl rfl trivial ?_
          refine LN rfl rfl rfl ?_
          refine LP rfl rfl rfl (xpk0 rfl rfl) ?_
          refine LZ ?_
          refine F_seq ?_
          refine W_else rfl ?_
          refine W_skip ?_
          refine F_seq ?_
          refine W_seq ?_
          refine W_seq ?_
          refine W_reg (.one 0 (.one 1 (.pure 2 .nil))) rfl ?_
          refine LX rfl rfl rfl (xlb5 ag145 hb19 rfl rfl rfl rfl rfl rfl) trivial ?_
          refine LF rfl rfl rfl has127 rfl (r_index (x := ((n : Int), x, y0, 0, (y1 + ((256 : Int) * y2))))) ?_
          rintro _ w35 ⟨rfl, hl13⟩
          refine ⟨trivial, ?_⟩
          refine LP rfl rfl rfl (xas rfl) ?_
          refine LZ ?_
          refine F_seq ?_
          refine W_seq ?_
          refine W_reg (.pure 0 (.pure 1 .nil)) rfl ?_
          refine LP rfl rfl rfl (xmv rfl) ?_
          refine LP rfl rfl rfl (xneq rfl rfl) ?_
          refine LZ ?_
          refine F_seq ?_
          refine W_cond rfl (fun c24 => ?_) (fun c24 => ?_)
          · -- c24 yes
           try simp only [Bool.not_eq_true', Bool.not_eq_false', decide_eq_true_eq, decide_eq_false_iff_not] at c24
           have hbad : badR ((n : Int), x, y0, 0, (y1 + ((256 : Int) * y2))) = true := by cases hq : badR ((n : Int), x, y0, 0, (y1 + ((256 : Int) * y2))) <;> simp [hq] at c24 ⊢
           have hbad0 := hbad
           refine W_seq ?_
           refine W_reg (.pure 0 (.pure 1 (.one 2 (.pure 3 (.pure 4 .nil))))) rfl ?_
           refine LP rfl rfl rfl (xbd rfl (bd145_ ())) ?_
           refine LP rfl rfl rfl (xmv rfl) ?_
           have le75 : Le w1 w8 := (hq5.le (hl2.trans hl3) (inc hl2.size hb6z inn))
           have le76 : Le w1 w10 := (hq6.le (le75.trans hl4) (inc hl2.size hb6z inn))
           have le77 : Le w1 w26 := (hq16.le (le76.trans (hl5.trans hl10)) (inc hl2.size hb6z inn))
           have le78 : Le w1 w27 := (hq17.le (le77.trans (Le.drew w26)) (inc hl2.size hb6z inn))
           refine LU rfl rfl (xsb sz145 (Le.bk (le78.trans hl13) hb1) rfl rfl (agg_cells _) rfl rfl (al_cons rfl (al_cons rfl (al_cons rfl (al_cons rfl (al_cons rfl al_nil)))))) ?_
           rintro w36 ⟨hq23, hb25⟩
           dsimp only [put] at hb25
           have hk11 := hq23.bk (ni_new hb6z (Nat.lt_of_lt_of_le (bk_lt hb1) hl2.size) ni_nil) (Le.bk hl13 hb19)
           refine ⟨trivial, ?_⟩
           refine LP rfl rfl rfl (xas rfl) ?_
           refine LP rfl rfl rfl (xas rfl) ?_
           refine LZ ?_
           refine F_seq ?_
           refine W_ret ?_
           refine F_ret_then ?_
           have hrd : readR b n x = ((n : Int), x, y0, 0, (y1 + ((256 : Int) * y2))) := by simp [readR, immR, placeB, placeI, getD_of, short_u16, short_i16, first1, two1, wide1, *]
           rw [← hrd] at hbad
           have e := (one_at hx).trans ((if_neg (by omega)).trans (if_pos hbad))
           have le79 : Le w w27 := (hq17.le (le46.trans (Le.drew w26)) (inc (Nat.le_trans hl1.size hl2.size) hb6z inn))
           have le80 : Le w w36 := (hq23.le (le79.trans hl13) (inc (Nat.le_refl _) hb1z inn))
           exact F_endR (rs := [.cell 4 145, .tmp 5, .tmp 6]) rfl (.cell rfl (run_ld0 ag145 hb25 rfl) (.tmp rfl (.tmp rfl .nil))) rfl ⟨_, rfl, by rw [e, hbad0]; rfl, le80⟩
          · -- c24 no
           try simp only [Bool.not_eq_true', Bool.not_eq_false', decide_eq_true_eq, decide_eq_false_iff_not] at c24
           have hbad : badR ((n : Int), x, y0, 0, (y1 + ((256 : Int) * y2))) = false := by cases hq : badR ((n : Int), x, y0, 0, (y1 + ((256 : Int) * y2))) <;> simp [hq] at c24 ⊢
           have hbad0 := hbad
           refine W_skip ?_
           refine F_seq ?_
           refine W_seq ?_
           refine W_reg (.one 0 (.pure 1 (.pure 2 (.pure 3 (.one 4 (.pure 5 (.pure 6 .nil))))))) rfl ?_
           refine LX rfl rfl rfl (xlb5 ag145 (Le.bk hl13 hb19) rfl rfl rfl rfl rfl rfl) trivial ?_
           refine LP rfl rfl rfl (xmv rfl) ?_
           refine LP rfl rfl rfl (xmv rfl) ?_
           refine LP rfl rfl rfl (xaddn rfl rfl (by omega)) ?_
           have le81 : Le w1 w8 := (hq5.le (hl2.trans hl3) (inc hl2.size hb6z inn))
           have le82 : Le w1 w10 := (hq6.le (le81.trans hl4) (inc hl2.size hb6z inn))
           have le83 : Le w1 w26 := (hq16.le (le82.trans (hl5.trans hl10)) (inc hl2.size hb6z inn))
           have le84 : Le w1 w27 := (hq17.le (le83.trans (Le.drew w26)) (inc hl2.size hb6z inn))
           refine LU rfl rfl (xsb sz145 (Le.bk (le84.trans hl13) hb1) rfl rfl (agg_cells [.int .i64 ((n : Int), x, y0, 0, (y1 + ((256 : Int) * y2))).1, .int .i64 ((n : Int), x, y0, 0, (y1 + ((256 : Int) * y2))).2.1, .int .i64 ((n : Int), x, y0, 0, (y1 + ((256 : Int) * y2))).2.2.1, .int .i64 ((n : Int), x, y0, 0, (y1 + ((256 : Int) * y2))).2.2.2.1, .int .i64 ((n : Int), x, y0, 0, (y1 + ((256 : Int) * y2))).2.2.2.2]) rfl rfl (al_cons rfl (al_cons rfl (al_cons rfl (al_cons rfl (al_cons rfl al_nil)))))) ?_
           rintro w37 ⟨hq24, hb26⟩
           dsimp only [put] at hb26
           have hk12 := hq24.bk (ni_new hb6z (Nat.lt_of_lt_of_le (bk_lt hb1) hl2.size) ni_nil) (Le.bk hl13 hb19)
           refine ⟨trivial, ?_⟩
           refine LP rfl rfl rfl (xas rfl) ?_
           refine LP rfl rfl rfl (xas rfl) ?_
           refine LZ ?_
           refine F_seq ?_
           refine W_ret ?_
           have hrd : readR b n x = ((n : Int), x, y0, 0, (y1 + ((256 : Int) * y2))) := by simp [readR, immR, placeB, placeI, getD_of, short_u16, short_i16, first1, two1, wide1, *]
           rw [← hrd] at hbad
           have e0 := (one_at hx).trans ((if_neg (by omega)).trans (if_neg (by simpa using hbad)))
           rw [hrd] at e0
           have e := e0
           have le85 : Le w w27 := (hq17.le (le46.trans (Le.drew w26)) (inc (Nat.le_trans hl1.size hl2.size) hb6z inn))
           have le86 : Le w w37 := (hq24.le (le85.trans hl13) (inc (Nat.le_refl _) hb1z inn))
           exact F_endR (rs := [.cell 4 145, .tmp 5, .tmp 6]) rfl (.cell rfl (run_ld0 ag145 hb26 rfl) (.tmp rfl (.tmp rfl .nil))) rfl ⟨_, rfl, by rw [e]; rfl, le86⟩
        · -- c18 no
         replace c18 := of_decide_eq_false c18
         have hwv : wideR x = 1 := by omega
         refine W_skip ?_
         refine F_seq ?_
         refine W_seq ?_
         refine W_seq ?_
         refine W_reg (.one 0 (.one 1 (.pure 2 .nil))) rfl ?_
         refine LX rfl rfl rfl (xlb5 ag145 hb18 rfl rfl rfl rfl rfl rfl) trivial ?_
         refine LF rfl rfl rfl has127 rfl (r_index (x := ((n : Int), x, y0, 0, y1))) ?_
         rintro _ w38 ⟨rfl, hl14⟩
         refine ⟨trivial, ?_⟩
         refine LP rfl rfl rfl (xas rfl) ?_
         refine LZ ?_
         refine F_seq ?_
         refine W_seq ?_
         refine W_reg (.pure 0 (.pure 1 .nil)) rfl ?_
         refine LP rfl rfl rfl (xmv rfl) ?_
         refine LP rfl rfl rfl (xneq rfl rfl) ?_
         refine LZ ?_
         refine F_seq ?_
         refine W_cond rfl (fun c25 => ?_) (fun c25 => ?_)
         · -- c25 yes
          try simp only [Bool.not_eq_true', Bool.not_eq_false', decide_eq_true_eq, decide_eq_false_iff_not] at c25
          have hbad : badR ((n : Int), x, y0, 0, y1) = true := by cases hq : badR ((n : Int), x, y0, 0, y1) <;> simp [hq] at c25 ⊢
          have hbad0 := hbad
          refine W_seq ?_
          refine W_reg (.pure 0 (.pure 1 (.one 2 (.pure 3 (.pure 4 .nil))))) rfl ?_
          refine LP rfl rfl rfl (xbd rfl (bd145_ ())) ?_
          refine LP rfl rfl rfl (xmv rfl) ?_
          have le87 : Le w1 w8 := (hq5.le (hl2.trans hl3) (inc hl2.size hb6z inn))
          have le88 : Le w1 w10 := (hq6.le (le87.trans hl4) (inc hl2.size hb6z inn))
          have le89 : Le w1 w26 := (hq16.le (le88.trans (hl5.trans hl10)) (inc hl2.size hb6z inn))
          refine LU rfl rfl (xsb sz145 (Le.bk (le89.trans hl14) hb1) rfl rfl (agg_cells _) rfl rfl (al_cons rfl (al_cons rfl (al_cons rfl (al_cons rfl (al_cons rfl al_nil)))))) ?_
          rintro w39 ⟨hq25, hb27⟩
          dsimp only [put] at hb27
          have hk13 := hq25.bk (ni_new hb6z (Nat.lt_of_lt_of_le (bk_lt hb1) hl2.size) ni_nil) (Le.bk hl14 hb18)
          refine ⟨trivial, ?_⟩
          refine LP rfl rfl rfl (xas rfl) ?_
          refine LP rfl rfl rfl (xas rfl) ?_
          refine LZ ?_
          refine F_seq ?_
          refine W_ret ?_
          refine F_ret_then ?_
          have hrd : readR b n x = ((n : Int), x, y0, 0, y1) := by simp [readR, immR, placeB, placeI, getD_of, short_u16, short_i16, first1, two1, wide1, *]
          rw [← hrd] at hbad
          have e := (one_at hx).trans ((if_neg (by omega)).trans (if_pos hbad))
          have le90 : Le w w26 := (hq16.le (le45.trans (hl5.trans hl10)) (inc (Nat.le_trans hl1.size hl2.size) hb6z inn))
          have le91 : Le w w39 := (hq25.le (le90.trans hl14) (inc (Nat.le_refl _) hb1z inn))
          exact F_endR (rs := [.cell 4 145, .tmp 5, .tmp 6]) rfl (.cell rfl (run_ld0 ag145 hb27 rfl) (.tmp rfl (.tmp rfl .nil))) rfl ⟨_, rfl, by rw [e, hbad0]; rfl, le91⟩
         · -- c25 no
          try simp only [Bool.not_eq_true', Bool.not_eq_false', decide_eq_true_eq, decide_eq_false_iff_not] at c25
          have hbad : badR ((n : Int), x, y0, 0, y1) = false := by cases hq : badR ((n : Int), x, y0, 0, y1) <;> simp [hq] at c25 ⊢
          have hbad0 := hbad
          refine W_skip ?_
          refine F_seq ?_
          refine W_seq ?_
          refine W_reg (.one 0 (.pure 1 (.pure 2 (.pure 3 (.one 4 (.pure 5 (.pure 6 .nil))))))) rfl ?_
          refine LX rfl rfl rfl (xlb5 ag145 (Le.bk hl14 hb18) rfl rfl rfl rfl rfl rfl) trivial ?_
          refine LP rfl rfl rfl (xmv rfl) ?_
          refine LP rfl rfl rfl (xmv rfl) ?_
          refine LP rfl rfl rfl (xaddn rfl rfl (by omega)) ?_
          have le92 : Le w1 w8 := (hq5.le (hl2.trans hl3) (inc hl2.size hb6z inn))
          have le93 : Le w1 w10 := (hq6.le (le92.trans hl4) (inc hl2.size hb6z inn))
          have le94 : Le w1 w26 := (hq16.le (le93.trans (hl5.trans hl10)) (inc hl2.size hb6z inn))
          refine LU rfl rfl (xsb sz145 (Le.bk (le94.trans hl14) hb1) rfl rfl (agg_cells [.int .i64 ((n : Int), x, y0, 0, y1).1, .int .i64 ((n : Int), x, y0, 0, y1).2.1, .int .i64 ((n : Int), x, y0, 0, y1).2.2.1, .int .i64 ((n : Int), x, y0, 0, y1).2.2.2.1, .int .i64 ((n : Int), x, y0, 0, y1).2.2.2.2]) rfl rfl (al_cons rfl (al_cons rfl (al_cons rfl (al_cons rfl (al_cons rfl al_nil)))))) ?_
          rintro w40 ⟨hq26, hb28⟩
          dsimp only [put] at hb28
          have hk14 := hq26.bk (ni_new hb6z (Nat.lt_of_lt_of_le (bk_lt hb1) hl2.size) ni_nil) (Le.bk hl14 hb18)
          refine ⟨trivial, ?_⟩
          refine LP rfl rfl rfl (xas rfl) ?_
          refine LP rfl rfl rfl (xas rfl) ?_
          refine LZ ?_
          refine F_seq ?_
          refine W_ret ?_
          have hrd : readR b n x = ((n : Int), x, y0, 0, y1) := by simp [readR, immR, placeB, placeI, getD_of, short_u16, short_i16, first1, two1, wide1, *]
          rw [← hrd] at hbad
          have e0 := (one_at hx).trans ((if_neg (by omega)).trans (if_neg (by simpa using hbad)))
          rw [hrd] at e0
          have e := e0
          have le95 : Le w w26 := (hq16.le (le45.trans (hl5.trans hl10)) (inc (Nat.le_trans hl1.size hl2.size) hb6z inn))
          have le96 : Le w w40 := (hq26.le (le95.trans hl14) (inc (Nat.le_refl _) hb1z inn))
          exact F_endR (rs := [.cell 4 145, .tmp 5, .tmp 6]) rfl (.cell rfl (run_ld0 ag145 hb28 rfl) (.tmp rfl (.tmp rfl .nil))) rfl ⟨_, rfl, by rw [e]; rfl, le96⟩
       · -- c17 no
        replace c17 := of_decide_eq_false c17
        have hwv : wideR x = 0 := by omega
        refine W_skip ?_
        refine F_seq ?_
        refine W_seq ?_
        refine W_seq ?_
        refine W_reg (.pure 0 (.pure 1 .nil)) rfl ?_
        refine LP rfl rfl rfl (xmv rfl) ?_
        refine LP rfl rfl rfl (xeql rfl rfl) ?_
        refine LZ ?_
        refine F_seq ?_
        refine W_cond rfl (fun c26 => ?_) (fun c26 => ?_)
        · -- c26 yes
         replace c26 := of_decide_eq_true c26
         have hwv : wideR x = 2 := by omega
         exfalso; omega
        · -- c26 no
         replace c26 := of_decide_eq_false c26
         refine W_skip ?_
         refine F_seq ?_
         refine W_seq ?_
         refine W_seq ?_
         refine W_reg (.one 0 (.one 1 (.pure 2 .nil))) rfl ?_
         refine LX rfl rfl rfl (xlb5 ag145 (Le.bk (hl5.trans hl10) hb8) rfl rfl rfl rfl rfl rfl) trivial ?_
         refine LF rfl rfl rfl has127 rfl (r_index (x := ((n : Int), x, y0, 0, 0))) ?_
         rintro _ w41 ⟨rfl, hl15⟩
         refine ⟨trivial, ?_⟩
         refine LP rfl rfl rfl (xas rfl) ?_
         refine LZ ?_
         refine F_seq ?_
         refine W_seq ?_
         refine W_reg (.pure 0 (.pure 1 .nil)) rfl ?_
         refine LP rfl rfl rfl (xmv rfl) ?_
         refine LP rfl rfl rfl (xneq rfl rfl) ?_
         refine LZ ?_
         refine F_seq ?_
         refine W_cond rfl (fun c27 => ?_) (fun c27 => ?_)
         · -- c27 yes
          try simp only [Bool.not_eq_true', Bool.not_eq_false', decide_eq_true_eq, decide_eq_false_iff_not] at c27
          have hbad : badR ((n : Int), x, y0, 0, 0) = true := by cases hq : badR ((n : Int), x, y0, 0, 0) <;> simp [hq] at c27 ⊢
          have hbad0 := hbad
          refine W_seq ?_
          refine W_reg (.pure 0 (.pure 1 (.one 2 (.pure 3 (.pure 4 .nil))))) rfl ?_
          refine LP rfl rfl rfl (xbd rfl (bd145_ ())) ?_
          refine LP rfl rfl rfl (xmv rfl) ?_
          have le97 : Le w1 w8 := (hq5.le (hl2.trans hl3) (inc hl2.size hb6z inn))
          have le98 : Le w1 w10 := (hq6.le (le97.trans hl4) (inc hl2.size hb6z inn))
          refine LU rfl rfl (xsb sz145 (Le.bk (le98.trans (hl5.trans (hl10.trans hl15))) hb1) rfl rfl (agg_cells _) rfl rfl (al_cons rfl (al_cons rfl (al_cons rfl (al_cons rfl (al_cons rfl al_nil)))))) ?_
          rintro w42 ⟨hq27, hb29⟩
          dsimp only [put] at hb29
          have hk15 := hq27.bk (ni_new hb6z (Nat.lt_of_lt_of_le (bk_lt hb1) hl2.size) ni_nil) (Le.bk (hl5.trans (hl10.trans hl15)) hb8)
          refine ⟨trivial, ?_⟩
          refine LP rfl rfl rfl (xas rfl) ?_
          refine LP rfl rfl rfl (xas rfl) ?_
          refine LZ ?_
          refine F_seq ?_
          refine W_ret ?_
          refine F_ret_then ?_
          have hrd : readR b n x = ((n : Int), x, y0, 0, 0) := by simp [readR, immR, placeB, placeI, getD_of, short_u16, short_i16, first1, two1, wide1, *]
          rw [← hrd] at hbad
          have e := (one_at hx).trans ((if_neg (by omega)).trans (if_pos hbad))
          have le99 : Le w w10 := (hq6.le (le5.trans hl4) (inc (Nat.le_trans hl1.size hl2.size) hb6z inn))
          have le100 : Le w w42 := (hq27.le (le99.trans (hl5.trans (hl10.trans hl15))) (inc (Nat.le_refl _) hb1z inn))
          exact F_endR (rs := [.cell 4 145, .tmp 5, .tmp 6]) rfl (.cell rfl (run_ld0 ag145 hb29 rfl) (.tmp rfl (.tmp rfl .nil))) rfl ⟨_, rfl, by rw [e, hbad0]; rfl, le100⟩
         · -- c27 no
          try simp only [Bool.not_eq_true', Bool.not_eq_false', decide_eq_true_eq, decide_eq_false_iff_not] at c27
          have hbad : badR ((n : Int), x, y0, 0, 0) = false := by cases hq : badR ((n : Int), x, y0, 0, 0) <;> simp [hq] at c27 ⊢
          have hbad0 := hbad
          refine W_skip ?_
          refine F_seq ?_
          refine W_seq ?_
          refine W_reg (.one 0 (.pure 1 (.pure 2 (.pure 3 (.one 4 (.pure 5 (.pure 6 .nil))))))) rfl ?_
          refine LX rfl rfl rfl (xlb5 ag145 (Le.bk (hl5.trans (hl10.trans hl15)) hb8) rfl rfl rfl rfl rfl rfl) trivial ?_
          refine LP rfl rfl rfl (xmv rfl) ?_
          refine LP rfl rfl rfl (xmv rfl) ?_
          refine LP rfl rfl rfl (xaddn rfl rfl (by omega)) ?_
          have le101 : Le w1 w8 := (hq5.le (hl2.trans hl3) (inc hl2.size hb6z inn))
          have le102 : Le w1 w10 := (hq6.le (le101.trans hl4) (inc hl2.size hb6z inn))
          refine LU rfl rfl (xsb sz145 (Le.bk (le102.trans (hl5.trans (hl10.trans hl15))) hb1) rfl rfl (agg_cells [.int .i64 ((n : Int), x, y0, 0, 0).1, .int .i64 ((n : Int), x, y0, 0, 0).2.1, .int .i64 ((n : Int), x, y0, 0, 0).2.2.1, .int .i64 ((n : Int), x, y0, 0, 0).2.2.2.1, .int .i64 ((n : Int), x, y0, 0, 0).2.2.2.2]) rfl rfl (al_cons rfl (al_cons rfl (al_cons rfl (al_cons rfl (al_cons rfl al_nil)))))) ?_
          rintro w43 ⟨hq28, hb30⟩
          dsimp only [put] at hb30
          have hk16 := hq28.bk (ni_new hb6z (Nat.lt_of_lt_of_le (bk_lt hb1) hl2.size) ni_nil) (Le.bk (hl5.trans (hl10.trans hl15)) hb8)
          refine ⟨trivial, ?_⟩
          refine LP rfl rfl rfl (xas rfl) ?_
          refine LP rfl rfl rfl (xas rfl) ?_
          refine LZ ?_
          refine F_seq ?_
          refine W_ret ?_
          have hrd : readR b n x = ((n : Int), x, y0, 0, 0) := by simp [readR, immR, placeB, placeI, getD_of, short_u16, short_i16, first1, two1, wide1, *]
          rw [← hrd] at hbad
          have e0 := (one_at hx).trans ((if_neg (by omega)).trans (if_neg (by simpa using hbad)))
          rw [hrd] at e0
          have e := e0
          have le103 : Le w w10 := (hq6.le (le5.trans hl4) (inc (Nat.le_trans hl1.size hl2.size) hb6z inn))
          have le104 : Le w w43 := (hq28.le (le103.trans (hl5.trans (hl10.trans hl15))) (inc (Nat.le_refl _) hb1z inn))
          exact F_endR (rs := [.cell 4 145, .tmp 5, .tmp 6]) rfl (.cell rfl (run_ld0 ag145 hb30 rfl) (.tmp rfl (.tmp rfl .nil))) rfl ⟨_, rfl, by rw [e]; rfl, le104⟩
     · -- c7 no
      have ha : firstR x = false := c7
      simp only [ha, Bool.false_eq_true, if_false] at hsum
      refine W_skip ?_
      refine F_seq ?_
      refine W_seq ?_
      refine W_seq ?_
      refine W_reg (.pure 0 (.one 1 (.one 2 .nil))) rfl ?_
      refine LP rfl rfl rfl (xfa fa145_1 rfl) ?_
      refine LX rfl rfl rfl (xld sc3 rfl (cl_bk (Le.bk hl4 hb7) rfl)) trivial ?_
      refine LF rfl rfl rfl has125 rfl (r_two) ?_
      rintro _ w44 ⟨rfl, hl16⟩
      refine ⟨trivial, ?_⟩
      refine LZ ?_
      refine F_seq ?_
      refine W_cond rfl (fun c28 => ?_) (fun c28 => ?_)
      · -- c28 yes
       have hb2 : twoR x = true := c28
       simp only [hb2, if_true] at hsum
       exact absurd (two_first hb2) (by rw [ha]; decide)
      · -- c28 no
       have hb2 : twoR x = false := c28
       simp only [hb2, Bool.false_eq_true, if_false] at hsum
       refine W_skip ?_
       refine F_seq ?_
       refine W_seq ?_
       refine W_reg (.pure 0 (.one 1 (.one 2 (.pure 3 .nil)))) rfl ?_
       refine LP rfl rfl rfl (xfa fa145_1 rfl) ?_
       refine LX rfl rfl rfl (xld sc3 rfl (cl_bk (Le.bk (hl4.trans hl16) hb7) rfl)) trivial ?_
       refine LF rfl rfl rfl has126 rfl (r_wide) ?_
       rintro _ w45 ⟨rfl, hl17⟩
       refine ⟨trivial, ?_⟩
       refine LP rfl rfl rfl (xas rfl) ?_
       refine LZ ?_
       refine F_seq ?_
       refine W_seq ?_
       refine W_seq ?_
       refine W_reg (.pure 0 (.pure 1 .nil)) rfl ?_
       refine LP rfl rfl rfl (xmv rfl) ?_
       refine LP rfl rfl rfl (xgeq rfl rfl) ?_
       refine LZ ?_
       refine F_seq ?_
       refine W_cond rfl (fun c29 => ?_) (fun c29 => ?_)
       · -- c29 yes
        replace c29 := of_decide_eq_true c29
        refine W_reg (.pure 0 (.pure 1 (.pure 2 (.one 3 (.pure 4 (.pure 5 (.one 6 .nil))))))) rfl ?_
        refine LP rfl rfl rfl (xmv rfl) ?_
        refine LP rfl rfl rfl (xmv rfl) ?_
        obtain ⟨y0, hy0⟩ : ∃ y, b[n + 1]? = some y := ⟨_, List.getElem?_eq_getElem (by omega)⟩
        have hyr0 := hB y0 (List.mem_of_getElem? hy0)
        refine LP rfl rfl rfl (xix (n + 1) un22 sz5 hb.sh rfl rfl (by omega) (by omega)) ?_
        have le105 : Le w w8 := (hq5.le (hl1.trans (hl2.trans hl3)) (inc (Nat.le_trans hl1.size hl2.size) hb6z inn))
        refine LX rfl rfl rfl (xle1 sc5 (RdE.le (le105.trans (hl4.trans (hl16.trans hl17))) hb) hy0 rfl rfl) trivial ?_
        refine LP rfl rfl rfl (xcvn un5 un2 (IntWalk.i64_in _ (by omega)) rfl) ?_
        refine LP rfl rfl rfl (xfa fa145_4 rfl) ?_
        refine LU rfl rfl (xsb sz2 (Le.bk (hl4.trans (hl16.trans hl17)) hb7) rfl rfl (int_cells _ _) rfl rfl (al_cons rfl al_nil)) ?_
        rintro w46 ⟨hq29, hb31⟩
        dsimp only [put] at hb31
        refine ⟨trivial, ?_⟩
        refine LZ ?_
        refine F_seq ?_
        refine W_seq ?_
        refine W_seq ?_
        refine W_reg (.pure 0 (.pure 1 .nil)) rfl ?_
        refine LP rfl rfl rfl (xmv rfl) ?_
        refine LP rfl rfl rfl (xeql rfl rfl) ?_
        refine LZ ?_
        refine F_seq ?_
        refine W_cond rfl (fun c30 => ?_) (fun c30 => ?_)
        · -- c30 yes
         replace c30 := of_decide_eq_true c30
         have hwv : wideR x = 2 := by omega
         refine W_seq ?_
         refine W_draw (.pure 0 (.still 1 (.pure 2 (.pure 3 (.pure 4 (.pure 5 (.still 6 (.pure 7 (.pure 8 (.pure 9 (.pure 10 (.tail 11 .nil)))))))))))) (Le w46) hfol (by kernel_rfl) (pkt (pkt pkB)) (Le.drew _) ?_
         refine LP rfl rfl rfl (xfa fa145_4 rfl) ?_
         refine LS rfl rfl rfl (fun w' hw' => (xld sc2 rfl (cl_bk (Le.bk hw' hb31) rfl))) ?_
         refine LP rfl rfl rfl (xmv rfl) ?_
         refine LP rfl rfl rfl (xmv rfl) ?_
         refine LP rfl rfl rfl (xaddn rfl rfl (by omega)) ?_
         obtain ⟨y1, hy1⟩ : ∃ y, b[n + 2]? = some y := ⟨_, List.getElem?_eq_getElem (by omega)⟩
         have hyr1 := hB y1 (List.mem_of_getElem? hy1)
         refine LP rfl rfl rfl (xix ((n + 1) + 1) un22 sz5 hb.sh rfl rfl (by omega) (by omega)) ?_
         have le106 : Le w w46 := (hq29.le (le105.trans (hl4.trans (hl16.trans hl17))) (inc (Nat.le_trans hl1.size hl2.size) hb6z inn))
         refine LS rfl rfl rfl (fun w' hw' => (xle1 sc5 (RdE.le (le106.trans hw') hb) hy1 rfl rfl)) ?_
         refine LP rfl rfl rfl (xcvn un5 un2 (IntWalk.i64_in _ (by omega)) rfl) ?_
         refine LP rfl rfl rfl (xmuln rfl rfl (by omega)) ?_
         refine LP rfl rfl rfl (xaddn rfl rfl (by omega)) ?_
         refine LP rfl rfl rfl (xfa fa145_4 rfl) ?_
         refine LUt rfl rfl (xsb sz2 (Le.bk (Le.drew w46) hb31) rfl rfl (int_cells _ _) rfl rfl (al_cons rfl al_nil)) ?_
         rintro w47 ⟨hq30, hb32⟩
         dsimp only [put] at hb32
         refine LZ ?_
         refine F_seq ?_
         refine W_seq ?_
         refine W_reg (.pure 0 (.one 1 (.pure 2 (.pure 3 (.pure 4 (.one 5 (.pure 6 (.pure 7 .nil)))))))) rfl ?_
         refine LP rfl rfl rfl (xfa fa145_1 rfl) ?_
         refine LX rfl rfl rfl (xld sc3 rfl (cl_bk hb32 rfl)) trivial ?_
         refine LP rfl rfl rfl (xeql rfl rfl) ?_
         refine LP rfl rfl rfl (xmv rfl) ?_
         refine L_split (t := 96) rfl (fun c31 => ?_) (fun c31 => ?_)
         · -- c31 yes
          replace c31 := of_decide_eq_true c31
          have hh : x = 1 := c31
          exact absurd hh (fun e => by rw [e] at ha hb2; first | exact absurd ha (by decide) | exact absurd hb2 (by decide))
         · -- c31 no
          replace c31 := of_decide_eq_false c31
          refine LN rfl rfl rfl ?_
          refine LNo rfl rfl rfl trivial ?_
          refine LN rfl rfl rfl ?_
          refine LP rfl rfl rfl (xpk0 rfl rfl) ?_
          refine LZ ?_
          refine F_seq ?_
          refine W_else rfl ?_
          refine W_skip ?_
          refine F_seq ?_
          refine W_seq ?_
          refine W_seq ?_
          refine W_reg (.one 0 (.one 1 (.pure 2 .nil))) rfl ?_
          refine LX rfl rfl rfl (xlb5 ag145 hb32 rfl rfl rfl rfl rfl rfl) trivial ?_
          refine LF rfl rfl rfl has127 rfl (r_index (x := ((n : Int), x, 0, 0, (y0 + ((256 : Int) * y1))))) ?_
          rintro _ w48 ⟨rfl, hl18⟩
          refine ⟨trivial, ?_⟩
          refine LP rfl rfl rfl (xas rfl) ?_
          refine LZ ?_
          refine F_seq ?_
          refine W_seq ?_
          refine W_reg (.pure 0 (.pure 1 .nil)) rfl ?_
          refine LP rfl rfl rfl (xmv rfl) ?_
          refine LP rfl rfl rfl (xneq rfl rfl) ?_
          refine LZ ?_
          refine F_seq ?_
          refine W_cond rfl (fun c33 => ?_) (fun c33 => ?_)
          · -- c33 yes
           try simp only [Bool.not_eq_true', Bool.not_eq_false', decide_eq_true_eq, decide_eq_false_iff_not] at c33
           have hbad : badR ((n : Int), x, 0, 0, (y0 + ((256 : Int) * y1))) = true := by cases hq : badR ((n : Int), x, 0, 0, (y0 + ((256 : Int) * y1))) <;> simp [hq] at c33 ⊢
           have hbad0 := hbad
           refine W_seq ?_
           refine W_reg (.pure 0 (.pure 1 (.one 2 (.pure 3 (.pure 4 .nil))))) rfl ?_
           refine LP rfl rfl rfl (xbd rfl (bd145_ ())) ?_
           refine LP rfl rfl rfl (xmv rfl) ?_
           have le107 : Le w1 w8 := (hq5.le (hl2.trans hl3) (inc hl2.size hb6z inn))
           have le108 : Le w1 w46 := (hq29.le (le107.trans (hl4.trans (hl16.trans hl17))) (inc hl2.size hb6z inn))
           have le109 : Le w1 w47 := (hq30.le (le108.trans (Le.drew w46)) (inc hl2.size hb6z inn))
           refine LU rfl rfl (xsb sz145 (Le.bk (le109.trans hl18) hb1) rfl rfl (agg_cells _) rfl rfl (al_cons rfl (al_cons rfl (al_cons rfl (al_cons rfl (al_cons rfl al_nil)))))) ?_
           rintro w49 ⟨hq31, hb33⟩
           dsimp only [put] at hb33
           have hk17 := hq31.bk (ni_new hb6z (Nat.lt_of_lt_of_le (bk_lt hb1) hl2.size) ni_nil) (Le.bk hl18 hb32)
           refine ⟨trivial, ?_⟩
           refine LP rfl rfl rfl (xas rfl) ?_
           refine LP rfl rfl rfl (xas rfl) ?_
           refine LZ ?_
           refine F_seq ?_
           refine W_ret ?_
           refine F_ret_then ?_
           have hrd : readR b n x = ((n : Int), x, 0, 0, (y0 + ((256 : Int) * y1))) := by simp [readR, immR, placeB, placeI, getD_of, short_u16, short_i16, first1, two1, wide1, *]
           rw [← hrd] at hbad
           have e := (one_at hx).trans ((if_neg (by omega)).trans (if_pos hbad))
           have le110 : Le w w47 := (hq30.le (le106.trans (Le.drew w46)) (inc (Nat.le_trans hl1.size hl2.size) hb6z inn))
           have le111 : Le w w49 := (hq31.le (le110.trans hl18) (inc (Nat.le_refl _) hb1z inn))
           exact F_endR (rs := [.cell 4 145, .tmp 5, .tmp 6]) rfl (.cell rfl (run_ld0 ag145 hb33 rfl) (.tmp rfl (.tmp rfl .nil))) rfl ⟨_, rfl, by rw [e, hbad0]; rfl, le111⟩
          · -- c33 no
           try simp only [Bool.not_eq_true', Bool.not_eq_false', decide_eq_true_eq, decide_eq_false_iff_not] at c33
           have hbad : badR ((n : Int), x, 0, 0, (y0 + ((256 : Int) * y1))) = false := by cases hq : badR ((n : Int), x, 0, 0, (y0 + ((256 : Int) * y1))) <;> simp [hq] at c33 ⊢
           have hbad0 := hbad
           refine W_skip ?_
           refine F_seq ?_
           refine W_seq ?_
           refine W_reg (.one 0 (.pure 1 (.pure 2 (.pure 3 (.one 4 (.pure 5 (.pure 6 .nil))))))) rfl ?_
           refine LX rfl rfl rfl (xlb5 ag145 (Le.bk hl18 hb32) rfl rfl rfl rfl rfl rfl) trivial ?_
           refine LP rfl rfl rfl (xmv rfl) ?_
           refine LP rfl rfl rfl (xmv rfl) ?_
           refine LP rfl rfl rfl (xaddn rfl rfl (by omega)) ?_
           have le112 : Le w1 w8 := (hq5.le (hl2.trans hl3) (inc hl2.size hb6z inn))
           have le113 : Le w1 w46 := (hq29.le (le112.trans (hl4.trans (hl16.trans hl17))) (inc hl2.size hb6z inn))
           have le114 : Le w1 w47 := (hq30.le (le113.trans (Le.drew w46)) (inc hl2.size hb6z inn))
           refine LU rfl rfl (xsb sz145 (Le.bk (le114.trans hl18) hb1) rfl rfl (agg_cells [.int .i64 ((n : Int), x, 0, 0, (y0 + ((256 : Int) * y1))).1, .int .i64 ((n : Int), x, 0, 0, (y0 + ((256 : Int) * y1))).2.1, .int .i64 ((n : Int), x, 0, 0, (y0 + ((256 : Int) * y1))).2.2.1, .int .i64 ((n : Int), x, 0, 0, (y0 + ((256 : Int) * y1))).2.2.2.1, .int .i64 ((n : Int), x, 0, 0, (y0 + ((256 : Int) * y1))).2.2.2.2]) rfl rfl (al_cons rfl (al_cons rfl (al_cons rfl (al_cons rfl (al_cons rfl al_nil)))))) ?_
           rintro w50 ⟨hq32, hb34⟩
           dsimp only [put] at hb34
           have hk18 := hq32.bk (ni_new hb6z (Nat.lt_of_lt_of_le (bk_lt hb1) hl2.size) ni_nil) (Le.bk hl18 hb32)
           refine ⟨trivial, ?_⟩
           refine LP rfl rfl rfl (xas rfl) ?_
           refine LP rfl rfl rfl (xas rfl) ?_
           refine LZ ?_
           refine F_seq ?_
           refine W_ret ?_
           have hrd : readR b n x = ((n : Int), x, 0, 0, (y0 + ((256 : Int) * y1))) := by simp [readR, immR, placeB, placeI, getD_of, short_u16, short_i16, first1, two1, wide1, *]
           rw [← hrd] at hbad
           have e0 := (one_at hx).trans ((if_neg (by omega)).trans (if_neg (by simpa using hbad)))
           rw [hrd] at e0
           have e := e0
           have le115 : Le w w47 := (hq30.le (le106.trans (Le.drew w46)) (inc (Nat.le_trans hl1.size hl2.size) hb6z inn))
           have le116 : Le w w50 := (hq32.le (le115.trans hl18) (inc (Nat.le_refl _) hb1z inn))
           exact F_endR (rs := [.cell 4 145, .tmp 5, .tmp 6]) rfl (.cell rfl (run_ld0 ag145 hb34 rfl) (.tmp rfl (.tmp rfl .nil))) rfl ⟨_, rfl, by rw [e]; rfl, le116⟩
        · -- c30 no
         replace c30 := of_decide_eq_false c30
         have hwv : wideR x = 1 := by omega
         refine W_skip ?_
         refine F_seq ?_
         refine W_seq ?_
         refine W_seq ?_
         refine W_reg (.one 0 (.one 1 (.pure 2 .nil))) rfl ?_
         refine LX rfl rfl rfl (xlb5 ag145 hb31 rfl rfl rfl rfl rfl rfl) trivial ?_
         refine LF rfl rfl rfl has127 rfl (r_index (x := ((n : Int), x, 0, 0, y0))) ?_
         rintro _ w51 ⟨rfl, hl19⟩
         refine ⟨trivial, ?_⟩
         refine LP rfl rfl rfl (xas rfl) ?_
         refine LZ ?_
         refine F_seq ?_
         refine W_seq ?_
         refine W_reg (.pure 0 (.pure 1 .nil)) rfl ?_
         refine LP rfl rfl rfl (xmv rfl) ?_
         refine LP rfl rfl rfl (xneq rfl rfl) ?_
         refine LZ ?_
         refine F_seq ?_
         refine W_cond rfl (fun c34 => ?_) (fun c34 => ?_)
         · -- c34 yes
          try simp only [Bool.not_eq_true', Bool.not_eq_false', decide_eq_true_eq, decide_eq_false_iff_not] at c34
          have hbad : badR ((n : Int), x, 0, 0, y0) = true := by cases hq : badR ((n : Int), x, 0, 0, y0) <;> simp [hq] at c34 ⊢
          have hbad0 := hbad
          refine W_seq ?_
          refine W_reg (.pure 0 (.pure 1 (.one 2 (.pure 3 (.pure 4 .nil))))) rfl ?_
          refine LP rfl rfl rfl (xbd rfl (bd145_ ())) ?_
          refine LP rfl rfl rfl (xmv rfl) ?_
          have le117 : Le w1 w8 := (hq5.le (hl2.trans hl3) (inc hl2.size hb6z inn))
          have le118 : Le w1 w46 := (hq29.le (le117.trans (hl4.trans (hl16.trans hl17))) (inc hl2.size hb6z inn))
          refine LU rfl rfl (xsb sz145 (Le.bk (le118.trans hl19) hb1) rfl rfl (agg_cells _) rfl rfl (al_cons rfl (al_cons rfl (al_cons rfl (al_cons rfl (al_cons rfl al_nil)))))) ?_
          rintro w52 ⟨hq33, hb35⟩
          dsimp only [put] at hb35
          have hk19 := hq33.bk (ni_new hb6z (Nat.lt_of_lt_of_le (bk_lt hb1) hl2.size) ni_nil) (Le.bk hl19 hb31)
          refine ⟨trivial, ?_⟩
          refine LP rfl rfl rfl (xas rfl) ?_
          refine LP rfl rfl rfl (xas rfl) ?_
          refine LZ ?_
          refine F_seq ?_
          refine W_ret ?_
          refine F_ret_then ?_
          have hrd : readR b n x = ((n : Int), x, 0, 0, y0) := by simp [readR, immR, placeB, placeI, getD_of, short_u16, short_i16, first1, two1, wide1, *]
          rw [← hrd] at hbad
          have e := (one_at hx).trans ((if_neg (by omega)).trans (if_pos hbad))
          have le119 : Le w w46 := (hq29.le (le105.trans (hl4.trans (hl16.trans hl17))) (inc (Nat.le_trans hl1.size hl2.size) hb6z inn))
          have le120 : Le w w52 := (hq33.le (le119.trans hl19) (inc (Nat.le_refl _) hb1z inn))
          exact F_endR (rs := [.cell 4 145, .tmp 5, .tmp 6]) rfl (.cell rfl (run_ld0 ag145 hb35 rfl) (.tmp rfl (.tmp rfl .nil))) rfl ⟨_, rfl, by rw [e, hbad0]; rfl, le120⟩
         · -- c34 no
          try simp only [Bool.not_eq_true', Bool.not_eq_false', decide_eq_true_eq, decide_eq_false_iff_not] at c34
          have hbad : badR ((n : Int), x, 0, 0, y0) = false := by cases hq : badR ((n : Int), x, 0, 0, y0) <;> simp [hq] at c34 ⊢
          have hbad0 := hbad
          refine W_skip ?_
          refine F_seq ?_
          refine W_seq ?_
          refine W_reg (.one 0 (.pure 1 (.pure 2 (.pure 3 (.one 4 (.pure 5 (.pure 6 .nil))))))) rfl ?_
          refine LX rfl rfl rfl (xlb5 ag145 (Le.bk hl19 hb31) rfl rfl rfl rfl rfl rfl) trivial ?_
          refine LP rfl rfl rfl (xmv rfl) ?_
          refine LP rfl rfl rfl (xmv rfl) ?_
          refine LP rfl rfl rfl (xaddn rfl rfl (by omega)) ?_
          have le121 : Le w1 w8 := (hq5.le (hl2.trans hl3) (inc hl2.size hb6z inn))
          have le122 : Le w1 w46 := (hq29.le (le121.trans (hl4.trans (hl16.trans hl17))) (inc hl2.size hb6z inn))
          refine LU rfl rfl (xsb sz145 (Le.bk (le122.trans hl19) hb1) rfl rfl (agg_cells [.int .i64 ((n : Int), x, 0, 0, y0).1, .int .i64 ((n : Int), x, 0, 0, y0).2.1, .int .i64 ((n : Int), x, 0, 0, y0).2.2.1, .int .i64 ((n : Int), x, 0, 0, y0).2.2.2.1, .int .i64 ((n : Int), x, 0, 0, y0).2.2.2.2]) rfl rfl (al_cons rfl (al_cons rfl (al_cons rfl (al_cons rfl (al_cons rfl al_nil)))))) ?_
          rintro w53 ⟨hq34, hb36⟩
          dsimp only [put] at hb36
          have hk20 := hq34.bk (ni_new hb6z (Nat.lt_of_lt_of_le (bk_lt hb1) hl2.size) ni_nil) (Le.bk hl19 hb31)
          refine ⟨trivial, ?_⟩
          refine LP rfl rfl rfl (xas rfl) ?_
          refine LP rfl rfl rfl (xas rfl) ?_
          refine LZ ?_
          refine F_seq ?_
          refine W_ret ?_
          have hrd : readR b n x = ((n : Int), x, 0, 0, y0) := by simp [readR, immR, placeB, placeI, getD_of, short_u16, short_i16, first1, two1, wide1, *]
          rw [← hrd] at hbad
          have e0 := (one_at hx).trans ((if_neg (by omega)).trans (if_neg (by simpa using hbad)))
          rw [hrd] at e0
          have e := e0
          have le123 : Le w w46 := (hq29.le (le105.trans (hl4.trans (hl16.trans hl17))) (inc (Nat.le_trans hl1.size hl2.size) hb6z inn))
          have le124 : Le w w53 := (hq34.le (le123.trans hl19) (inc (Nat.le_refl _) hb1z inn))
          exact F_endR (rs := [.cell 4 145, .tmp 5, .tmp 6]) rfl (.cell rfl (run_ld0 ag145 hb36 rfl) (.tmp rfl (.tmp rfl .nil))) rfl ⟨_, rfl, by rw [e]; rfl, le124⟩
       · -- c29 no
        replace c29 := of_decide_eq_false c29
        have hwv : wideR x = 0 := by omega
        refine W_skip ?_
        refine F_seq ?_
        refine W_seq ?_
        refine W_seq ?_
        refine W_reg (.pure 0 (.pure 1 .nil)) rfl ?_
        refine LP rfl rfl rfl (xmv rfl) ?_
        refine LP rfl rfl rfl (xeql rfl rfl) ?_
        refine LZ ?_
        refine F_seq ?_
        refine W_cond rfl (fun c35 => ?_) (fun c35 => ?_)
        · -- c35 yes
         replace c35 := of_decide_eq_true c35
         have hwv : wideR x = 2 := by omega
         exfalso; omega
        · -- c35 no
         replace c35 := of_decide_eq_false c35
         refine W_skip ?_
         refine F_seq ?_
         refine W_seq ?_
         refine W_seq ?_
         refine W_reg (.one 0 (.one 1 (.pure 2 .nil))) rfl ?_
         refine LX rfl rfl rfl (xlb5 ag145 (Le.bk (hl4.trans (hl16.trans hl17)) hb7) rfl rfl rfl rfl rfl rfl) trivial ?_
         refine LF rfl rfl rfl has127 rfl (r_index (x := ((n : Int), x, 0, 0, 0))) ?_
         rintro _ w54 ⟨rfl, hl20⟩
         refine ⟨trivial, ?_⟩
         refine LP rfl rfl rfl (xas rfl) ?_
         refine LZ ?_
         refine F_seq ?_
         refine W_seq ?_
         refine W_reg (.pure 0 (.pure 1 .nil)) rfl ?_
         refine LP rfl rfl rfl (xmv rfl) ?_
         refine LP rfl rfl rfl (xneq rfl rfl) ?_
         refine LZ ?_
         refine F_seq ?_
         refine W_cond rfl (fun c36 => ?_) (fun c36 => ?_)
         · -- c36 yes
          try simp only [Bool.not_eq_true', Bool.not_eq_false', decide_eq_true_eq, decide_eq_false_iff_not] at c36
          have hbad : badR ((n : Int), x, 0, 0, 0) = true := by cases hq : badR ((n : Int), x, 0, 0, 0) <;> simp [hq] at c36 ⊢
          have hbad0 := hbad
          refine W_seq ?_
          refine W_reg (.pure 0 (.pure 1 (.one 2 (.pure 3 (.pure 4 .nil))))) rfl ?_
          refine LP rfl rfl rfl (xbd rfl (bd145_ ())) ?_
          refine LP rfl rfl rfl (xmv rfl) ?_
          have le125 : Le w1 w8 := (hq5.le (hl2.trans hl3) (inc hl2.size hb6z inn))
          refine LU rfl rfl (xsb sz145 (Le.bk (le125.trans (hl4.trans (hl16.trans (hl17.trans hl20)))) hb1) rfl rfl (agg_cells _) rfl rfl (al_cons rfl (al_cons rfl (al_cons rfl (al_cons rfl (al_cons rfl al_nil)))))) ?_
          rintro w55 ⟨hq35, hb37⟩
          dsimp only [put] at hb37
          have hk21 := hq35.bk (ni_new hb6z (Nat.lt_of_lt_of_le (bk_lt hb1) hl2.size) ni_nil) (Le.bk (hl4.trans (hl16.trans (hl17.trans hl20))) hb7)
          refine ⟨trivial, ?_⟩
          refine LP rfl rfl rfl (xas rfl) ?_
          refine LP rfl rfl rfl (xas rfl) ?_
          refine LZ ?_
          refine F_seq ?_
          refine W_ret ?_
          refine F_ret_then ?_
          have hrd : readR b n x = ((n : Int), x, 0, 0, 0) := by simp [readR, immR, placeB, placeI, getD_of, short_u16, short_i16, first1, two1, wide1, *]
          rw [← hrd] at hbad
          have e := (one_at hx).trans ((if_neg (by omega)).trans (if_pos hbad))
          have le126 : Le w w8 := (hq5.le (hl1.trans (hl2.trans hl3)) (inc (Nat.le_trans hl1.size hl2.size) hb6z inn))
          have le127 : Le w w55 := (hq35.le (le126.trans (hl4.trans (hl16.trans (hl17.trans hl20)))) (inc (Nat.le_refl _) hb1z inn))
          exact F_endR (rs := [.cell 4 145, .tmp 5, .tmp 6]) rfl (.cell rfl (run_ld0 ag145 hb37 rfl) (.tmp rfl (.tmp rfl .nil))) rfl ⟨_, rfl, by rw [e, hbad0]; rfl, le127⟩
         · -- c36 no
          try simp only [Bool.not_eq_true', Bool.not_eq_false', decide_eq_true_eq, decide_eq_false_iff_not] at c36
          have hbad : badR ((n : Int), x, 0, 0, 0) = false := by cases hq : badR ((n : Int), x, 0, 0, 0) <;> simp [hq] at c36 ⊢
          have hbad0 := hbad
          refine W_skip ?_
          refine F_seq ?_
          refine W_seq ?_
          refine W_reg (.one 0 (.pure 1 (.pure 2 (.pure 3 (.one 4 (.pure 5 (.pure 6 .nil))))))) rfl ?_
          refine LX rfl rfl rfl (xlb5 ag145 (Le.bk (hl4.trans (hl16.trans (hl17.trans hl20))) hb7) rfl rfl rfl rfl rfl rfl) trivial ?_
          refine LP rfl rfl rfl (xmv rfl) ?_
          refine LP rfl rfl rfl (xmv rfl) ?_
          refine LP rfl rfl rfl (xaddn rfl rfl (by omega)) ?_
          have le128 : Le w1 w8 := (hq5.le (hl2.trans hl3) (inc hl2.size hb6z inn))
          refine LU rfl rfl (xsb sz145 (Le.bk (le128.trans (hl4.trans (hl16.trans (hl17.trans hl20)))) hb1) rfl rfl (agg_cells [.int .i64 ((n : Int), x, 0, 0, 0).1, .int .i64 ((n : Int), x, 0, 0, 0).2.1, .int .i64 ((n : Int), x, 0, 0, 0).2.2.1, .int .i64 ((n : Int), x, 0, 0, 0).2.2.2.1, .int .i64 ((n : Int), x, 0, 0, 0).2.2.2.2]) rfl rfl (al_cons rfl (al_cons rfl (al_cons rfl (al_cons rfl (al_cons rfl al_nil)))))) ?_
          rintro w56 ⟨hq36, hb38⟩
          dsimp only [put] at hb38
          have hk22 := hq36.bk (ni_new hb6z (Nat.lt_of_lt_of_le (bk_lt hb1) hl2.size) ni_nil) (Le.bk (hl4.trans (hl16.trans (hl17.trans hl20))) hb7)
          refine ⟨trivial, ?_⟩
          refine LP rfl rfl rfl (xas rfl) ?_
          refine LP rfl rfl rfl (xas rfl) ?_
          refine LZ ?_
          refine F_seq ?_
          refine W_ret ?_
          have hrd : readR b n x = ((n : Int), x, 0, 0, 0) := by simp [readR, immR, placeB, placeI, getD_of, short_u16, short_i16, first1, two1, wide1, *]
          rw [← hrd] at hbad
          have e0 := (one_at hx).trans ((if_neg (by omega)).trans (if_neg (by simpa using hbad)))
          rw [hrd] at e0
          have e := e0
          have le129 : Le w w8 := (hq5.le (hl1.trans (hl2.trans hl3)) (inc (Nat.le_trans hl1.size hl2.size) hb6z inn))
          have le130 : Le w w56 := (hq36.le (le129.trans (hl4.trans (hl16.trans (hl17.trans hl20)))) (inc (Nat.le_refl _) hb1z inn))
          exact F_endR (rs := [.cell 4 145, .tmp 5, .tmp 6]) rfl (.cell rfl (run_ld0 ag145 hb38 rfl) (.tmp rfl (.tmp rfl .nil))) rfl ⟨_, rfl, by rw [e]; rfl, le130⟩
end Go.Proofs.Ythmhbonhagjnnaa
