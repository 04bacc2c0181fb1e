/- Sessions: requests. -/
import Derived.Test.YthmhbonhagjnnaaProg
import Derived.Test.YthmhbonhagjnnaaC2
import Derived.KernelRfl
namespace Go.Proofs.Ythmhbonhagjnnaa
open Go.RowKit
set_option linter.unusedVariables false
set_option linter.unusedSimpArgs false
theorem fa116_3 : FA Try.prog 116 3 3 := fun _ _ _ => by kernel_rfl
theorem sc4 : Sc Try.prog 4 := fun _ => by kernel_rfl
theorem bd36_ : ∀ (_ : Unit), BD Try.prog 36 [] #[.int .i64 0, .int .i64 0, .int .i64 0, .slice none 0 0, .slice none 0 0, .slice none 0 0, .slice none 0 0, .bool false, .slice none 0 0, .int .i64 0] := fun _ _ => by kernel_rfl
theorem has61 : Has Try.prog 61 Try.f61 := ⟨Try.func61, by kernel_rfl, rfl⟩
theorem fa116_0 : FA Try.prog 116 0 0 := fun _ _ _ => by kernel_rfl
theorem has36 : Has Try.prog 36 Try.f36 := ⟨Try.func36, by kernel_rfl, rfl⟩
theorem sz4 : ∀ w, (sizeOf 4).run Try.prog w = .ok 1 w := fun _ => by kernel_rfl
theorem fa116_5 : FA Try.prog 116 5 10 := fun _ _ _ => by kernel_rfl
theorem has62 : Has Try.prog 62 Try.f62 := ⟨Try.func62, by kernel_rfl, rfl⟩
theorem fa118_3 : FA Try.prog 118 3 3 := fun _ _ _ => by kernel_rfl
theorem has63 : Has Try.prog 63 Try.f63 := ⟨Try.func63, by kernel_rfl, rfl⟩
theorem fa118_2 : FA Try.prog 118 2 2 := fun _ _ _ => by kernel_rfl
theorem has64 : Has Try.prog 64 Try.f64 := ⟨Try.func64, by kernel_rfl, rfl⟩
theorem fa118_0 : FA Try.prog 118 0 0 := fun _ _ _ => by kernel_rfl
theorem has65 : Has Try.prog 65 Try.f65 := ⟨Try.func65, by kernel_rfl, rfl⟩
theorem fa118_4 : FA Try.prog 118 4 4 := fun _ _ _ => by kernel_rfl
theorem fa118_5 : FA Try.prog 118 5 10 := fun _ _ _ => by kernel_rfl
theorem fa118_6 : FA Try.prog 118 6 11 := fun _ _ _ => by kernel_rfl
theorem c_submit {S : List Nat} {b : Nat} {c : Cli} {t : Txn} {vtc vta vtr vtw : Value} {rep : Int} {w : World} (hc : Cl S w 116 b c) (hok : c.ok) (hbS : b ∈ S) (hS : ∀ i ∈ S, i < w.heap.size) (htc : RdE w.heap ByteE vtc t.code) (hta : RdE w.heap IntE vta t.args) (htr : RdE w.heap KeyE vtr t.reads) (htw : RdE w.heap KeyE vtw t.writes) (hn : t.small) (hB : ∀ x ∈ t.code, 0 ≤ x ∧ x ≤ 255) :
    Fn Try.prog 17 #[.pointer (some ⟨b, 0, none⟩), (.agg #[.int .i64 t.se, .int .i64 t.rq, vtc, vta, vtr, vtw]), .int .i64 rep] w fun v w' => (submitE c t rep ≠ 0 ∧ v = .tuple #[(.agg #[.int .i64 0, .int .i64 zTxn.se, .int .i64 zTxn.rq, .slice none 0 0, .slice none 0 0, .slice none 0 0, .slice none 0 0, .bool false, .slice none 0 0, .int .i64 0]), .int .i64 (submitE c t rep)] ∧ Le w w') ∨ (submitE c t rep = 0 ∧ ∃ xc xa xr xw, v = .tuple #[(.agg #[.int .i64 rep, .int .i64 (normT c t).se, .int .i64 (normT c t).rq, xc, xa, xr, xw, .bool false, .slice none 0 0, .int .i64 0]), .int .i64 0] ∧ Lx [b] w w' ∧ Cl (blks4 xc xa xr xw ++ S) w' 116 b (submitC c t rep) ∧ Ow w' w 5 ByteE xc (normT c t).code ∧ Ow w' w 2 IntE xa (normT c t).args ∧ Ow w' w 40 KeyE xr (normT c t).reads ∧ Ow w' w 40 KeyE xw (normT c t).writes ∧ Off xc.ownBlock.toList xw) := by
 refine Fn.enter 78 [(0, _), (1, _), (2, _)] Try.func17 rfl rfl rfl rfl ?_
 obtain ⟨vc, va, vr, vw, vl, hb, hcc, hca, hcr, hcw, hcl⟩ := id hc
 have hr1 := hok.r1
 have hr2 := hok.r2
 have hq1 := hok.q1
 have hq2 := hok.q2
 have hw1 := hok.w1
 have hw2 := hok.w2
 have ht1 := hok.t1
 have ht2 := hok.t2
 obtain ⟨hzc, hza, hzr, hzw⟩ := hok.sm
 have hzl := hok.lv
 have hsm := hn
 obtain ⟨hnc, hna, hnr, hnw⟩ := hn
 refine W_seq ?_
 refine W_reg (.one 0 (.one 1 (.pure 2 .nil))) rfl ?_
 refine LT rfl rfl rfl (xbox rfl) ?_
 rintro _ w1 ⟨b1, rfl, hl1, hb1, hb1z⟩
 refine ⟨trivial, ?_⟩
 refine LT rfl rfl rfl (xal zr36) ?_
 rintro _ w2 ⟨b2, rfl, hl2, hb2, hb2z⟩
 refine ⟨trivial, ?_⟩
 refine LP rfl rfl rfl (xas rfl) ?_
 refine LZ ?_
 refine F_seq ?_
 refine W_seq ?_
 refine W_block ?_
 refine W_seq ?_
 refine W_reg (.pure 0 (.one 1 (.pure 2 .nil))) rfl ?_
 refine LP rfl rfl rfl (xmv rfl) ?_
 refine LF rfl rfl rfl has60 rfl (c_none (Le.clx (hl1.trans hl2) hc) hok hbS (lt_le hS (Nat.le_trans hl1.size hl2.size))) ?_
 rintro _ w3 ⟨rfl, hl3⟩
 refine ⟨trivial, ?_⟩
 refine LP rfl rfl rfl (xas rfl) ?_
 refine LZ ?_
 refine F_seq ?_
 refine W_else rfl ?_
 refine W_seq ?_
 refine W_reg (.pure 0 (.pure 1 (.pure 2 (.one 3 (.pure 4 .nil))))) rfl ?_
 refine LP rfl rfl rfl (xmv rfl) ?_
 refine LP rfl rfl rfl (xnc rfl) ?_
 refine LP rfl rfl rfl (xfa fa116_3 rfl) ?_
 refine LX rfl rfl rfl (xld sc4 rfl (cl_bk (Le.bk (hl1.trans (hl2.trans hl3)) hb) rfl)) trivial ?_
 refine LP rfl rfl rfl (xas rfl) ?_
 refine LZ ?_
 refine F_seq ?_
 refine W_cond rfl (fun c2 => ?_) (fun c2 => ?_)
 · -- c2 yes
  have hp : c.pend = true := by simpa using c2
  refine W_seq ?_
  refine W_reg (.pure 0 (.one 1 (.pure 2 .nil))) rfl ?_
  refine LP rfl rfl rfl (xbd rfl (bd36_ ())) ?_
  refine LU rfl rfl (xsb sz36 (Le.bk hl3 hb2) rfl rfl (agg_cells _) rfl rfl (al_cons rfl (al_cons rfl (al_cons rfl (al_cons rfl (al_cons rfl (al_cons rfl (al_cons rfl (al_cons rfl (al_cons rfl (al_cons rfl al_nil))))))))))) ?_
  rintro w4 ⟨hq1, hb3⟩
  dsimp only [put] at hb3
  refine ⟨trivial, ?_⟩
  refine LP rfl rfl rfl (xas rfl) ?_
  refine LZ ?_
  refine F_seq ?_
  refine W_ret ?_
  refine F_ret_block ?_
  refine F_ret_then ?_
  have hE : submitE c t rep = 251 := by unfold submitE; rw [if_pos (by simpa using hp)]
  have le1 : Le w w4 := (hq1.le (hl1.trans (hl2.trans hl3)) (inc hl1.size hb2z inn))
  exact F_endR (rs := [.cell 6 36, .tmp 7]) rfl (.cell rfl (run_ld0 ag36 hb3 rfl) (.tmp rfl .nil)) rfl ⟨_, rfl, .inl ⟨by rw [hE]; decide, by rw [hE]; rfl, le1⟩⟩
 · -- c2 no
  have hp : c.pend = false := by simpa using c2
  refine W_seq ?_
  refine W_reg (.pure 0 (.pure 1 (.pure 2 (.pure 3 (.pure 4 (.pure 5 (.pure 6 (.one 7 (.pure 8 (.pure 9 (.pure 10 .nil))))))))))) rfl ?_
  refine LP rfl rfl rfl (xmv rfl) ?_
  refine LP rfl rfl rfl (xlss rfl rfl) ?_
  refine LP rfl rfl rfl (xmv rfl) ?_
  refine L_split (t := 22) rfl (fun c3 => ?_) (fun c3 => ?_)
  · -- c3 yes
   replace c3 := of_decide_eq_true c3
   refine LN rfl rfl rfl ?_
   refine LN rfl rfl rfl ?_
   refine LN rfl rfl rfl ?_
   refine LN rfl rfl rfl ?_
   refine LNo rfl rfl rfl trivial ?_
   refine LN rfl rfl rfl ?_
   refine LP rfl rfl rfl (xpk1 rfl rfl) ?_
   refine LP rfl rfl rfl (xas rfl) ?_
   refine LZ ?_
   refine F_seq ?_
   refine W_if rfl ?_
   refine W_seq ?_
   refine W_reg (.pure 0 (.one 1 (.pure 2 .nil))) rfl ?_
   refine LP rfl rfl rfl (xbd rfl (bd36_ ())) ?_
   refine LU rfl rfl (xsb sz36 (Le.bk hl3 hb2) rfl rfl (agg_cells _) rfl rfl (al_cons rfl (al_cons rfl (al_cons rfl (al_cons rfl (al_cons rfl (al_cons rfl (al_cons rfl (al_cons rfl (al_cons rfl (al_cons rfl al_nil))))))))))) ?_
   rintro w5 ⟨hq2, hb4⟩
   dsimp only [put] at hb4
   refine ⟨trivial, ?_⟩
   refine LP rfl rfl rfl (xas rfl) ?_
   refine LZ ?_
   refine F_seq ?_
   refine W_ret ?_
   refine F_ret_block ?_
   refine F_ret_then ?_
   have hE : submitE c t rep = 1 := by unfold submitE; rw [if_neg (by simp [hp]), if_pos (by omega)]
   have le2 : Le w w5 := (hq2.le (hl1.trans (hl2.trans hl3)) (inc hl1.size hb2z inn))
   exact F_endR (rs := [.cell 6 36, .tmp 7]) rfl (.cell rfl (run_ld0 ag36 hb4 rfl) (.tmp rfl .nil)) rfl ⟨_, rfl, .inl ⟨by rw [hE]; decide, by rw [hE]; rfl, le2⟩⟩
  · -- c3 no
   replace c3 := of_decide_eq_false c3
   refine LP rfl rfl rfl (xmv rfl) ?_
   refine LP rfl rfl rfl (xmv rfl) ?_
   refine LP rfl rfl rfl (xnc rfl) ?_
   refine LP rfl rfl rfl (xfa fa116_1 rfl) ?_
   refine LX rfl rfl rfl (xld sc3 rfl (cl_bk (Le.bk (hl1.trans (hl2.trans hl3)) hb) rfl)) trivial ?_
   refine LP rfl rfl rfl (xgeq rfl rfl) ?_
   refine LP rfl rfl rfl (xpk0 rfl rfl) ?_
   refine LP rfl rfl rfl (xas rfl) ?_
   refine LZ ?_
   refine F_seq ?_
   refine W_cond rfl (fun c5 => ?_) (fun c5 => ?_)
   · -- c5 yes
    replace c5 := of_decide_eq_true c5
    refine W_seq ?_
    refine W_reg (.pure 0 (.one 1 (.pure 2 .nil))) rfl ?_
    refine LP rfl rfl rfl (xbd rfl (bd36_ ())) ?_
    refine LU rfl rfl (xsb sz36 (Le.bk hl3 hb2) rfl rfl (agg_cells _) rfl rfl (al_cons rfl (al_cons rfl (al_cons rfl (al_cons rfl (al_cons rfl (al_cons rfl (al_cons rfl (al_cons rfl (al_cons rfl (al_cons rfl al_nil))))))))))) ?_
    rintro w6 ⟨hq3, hb5⟩
    dsimp only [put] at hb5
    refine ⟨trivial, ?_⟩
    refine LP rfl rfl rfl (xas rfl) ?_
    refine LZ ?_
    refine F_seq ?_
    refine W_ret ?_
    refine F_ret_block ?_
    refine F_ret_then ?_
    have hE : submitE c t rep = 1 := by unfold submitE; rw [if_neg (by simp [hp]), if_pos (by omega)]
    have le3 : Le w w6 := (hq3.le (hl1.trans (hl2.trans hl3)) (inc hl1.size hb2z inn))
    exact F_endR (rs := [.cell 6 36, .tmp 7]) rfl (.cell rfl (run_ld0 ag36 hb5 rfl) (.tmp rfl .nil)) rfl ⟨_, rfl, .inl ⟨by rw [hE]; decide, by rw [hE]; rfl, le3⟩⟩
   · -- c5 no
    replace c5 := of_decide_eq_false c5
    refine W_seq ?_
    refine W_reg (.pure 0 (.pure 1 (.pure 2 (.one 3 (.pure 4 (.pure 5 .nil)))))) rfl ?_
    refine LP rfl rfl rfl (xmv rfl) ?_
    refine LP rfl rfl rfl (xnc rfl) ?_
    refine LP rfl rfl rfl (xfa fa116_2 rfl) ?_
    refine LX rfl rfl rfl (xld sc2 rfl (cl_bk (Le.bk (hl1.trans (hl2.trans hl3)) hb) rfl)) trivial ?_
    refine LP rfl rfl rfl (xgeq rfl rfl) ?_
    refine LP rfl rfl rfl (xas rfl) ?_
    refine LZ ?_
    refine F_seq ?_
    refine W_cond rfl (fun c6 => ?_) (fun c6 => ?_)
    · -- c6 yes
     replace c6 := of_decide_eq_true c6
     refine W_seq ?_
     refine W_reg (.pure 0 (.one 1 (.pure 2 .nil))) rfl ?_
     refine LP rfl rfl rfl (xbd rfl (bd36_ ())) ?_
     refine LU rfl rfl (xsb sz36 (Le.bk hl3 hb2) rfl rfl (agg_cells _) rfl rfl (al_cons rfl (al_cons rfl (al_cons rfl (al_cons rfl (al_cons rfl (al_cons rfl (al_cons rfl (al_cons rfl (al_cons rfl (al_cons rfl al_nil))))))))))) ?_
     rintro w7 ⟨hq4, hb6⟩
     dsimp only [put] at hb6
     refine ⟨trivial, ?_⟩
     refine LP rfl rfl rfl (xas rfl) ?_
     refine LZ ?_
     refine F_seq ?_
     refine W_ret ?_
     refine F_ret_block ?_
     refine F_ret_then ?_
     have hE : submitE c t rep = 6 := by unfold submitE; rw [if_neg (by simp [hp]), if_neg (by omega), if_pos (by omega)]
     have le4 : Le w w7 := (hq4.le (hl1.trans (hl2.trans hl3)) (inc hl1.size hb2z inn))
     exact F_endR (rs := [.cell 6 36, .tmp 7]) rfl (.cell rfl (run_ld0 ag36 hb6 rfl) (.tmp rfl .nil)) rfl ⟨_, rfl, .inl ⟨by rw [hE]; decide, by rw [hE]; rfl, le4⟩⟩
    · -- c6 no
     replace c6 := of_decide_eq_false c6
     have hrp : ¬ (rep < 0 ∨ c.reps ≤ rep) := by omega
     have hrq : ¬ 1099511627776 ≤ c.rq := by omega
     refine W_skip ?_
     refine F_block ?_
     refine F_seq ?_
     refine W_seq ?_
     refine W_reg (.one 0 (.one 1 (.one 2 .nil))) rfl ?_
     refine LX rfl rfl rfl (xlb6 ag26 (Le.bk (hl2.trans hl3) hb1) rfl rfl rfl rfl rfl rfl rfl) trivial ?_
     refine LF rfl rfl rfl has61 rfl (c_normT (t := ⟨t.se, t.rq, t.code, t.args, t.reads, t.writes⟩) (RdE.le (hl1.trans (hl2.trans hl3)) htc) (RdE.le (hl1.trans (hl2.trans hl3)) hta) (RdE.le (hl1.trans (hl2.trans hl3)) htr) (RdE.le (hl1.trans (hl2.trans hl3)) htw) ⟨(by first | omega | (simp only [List.length_append, List.length_take, List.length_drop, List.length_cons, List.length_nil]; omega)), (by first | omega | (simp only [List.length_append, List.length_take, List.length_drop, List.length_cons, List.length_nil]; omega)), (by first | omega | (simp only [List.length_append, List.length_take, List.length_drop, List.length_cons, List.length_nil]; omega)), (by first | omega | (simp only [List.length_append, List.length_take, List.length_drop, List.length_cons, List.length_nil]; omega))⟩) ?_
     rintro _ w8 ⟨xc1, xa1, xr1, xw1, rfl, hl4, ho1, ho2, ho3, ho4⟩
     refine ⟨trivial, ?_⟩
     refine LU rfl rfl (xsb sz26 (Le.bk (hl2.trans (hl3.trans hl4)) hb1) rfl rfl (agg_cells _) rfl rfl (al_cons rfl (al_cons rfl (al_cons ho1.rd.sh.one (al_cons ho2.rd.sh.one (al_cons ho3.rd.sh.one (al_cons ho4.rd.sh.one al_nil))))))) ?_
     rintro w9 ⟨hq5, hb7⟩
     dsimp only [put] at hb7
     have hk1 := hq5.bk (ni_new hb2z (Nat.lt_of_lt_of_le (bk_lt hb1) (Nat.le_refl _)) ni_nil) (Le.bk (hl3.trans hl4) hb2)
     have hk2 := hq5.ow (Off.cons (Ow.ne_new ho1 (Nat.lt_of_lt_of_le (bk_lt hb1) (Nat.le_trans hl2.size hl3.size))) Off.nil) ho1
     have hk3 := hq5.ow (Off.cons (Ow.ne_new ho2 (Nat.lt_of_lt_of_le (bk_lt hb1) (Nat.le_trans hl2.size hl3.size))) Off.nil) ho2
     have hk4 := hq5.ow (Off.cons (Ow.ne_new ho3 (Nat.lt_of_lt_of_le (bk_lt hb1) (Nat.le_trans hl2.size hl3.size))) Off.nil) ho3
     have hk5 := hq5.ow (Off.cons (Ow.ne_new ho4 (Nat.lt_of_lt_of_le (bk_lt hb1) (Nat.le_trans hl2.size hl3.size))) Off.nil) ho4
     refine ⟨trivial, ?_⟩
     refine LZ ?_
     refine F_seq ?_
     refine W_seq ?_
     refine W_draw (.pure 0 (.pure 1 (.pure 2 (.still 3 (.pure 4 (.pure 5 (.pure 6 (.still 7 (.pure 8 (.pure 9 (.one 10 (.pure 11 (.tail 12 .nil))))))))))))) (Lx [b1] w9) hfol (by kernel_rfl) (pkt pkB) (Le.drew _).lx ?_
     refine LP rfl rfl rfl (xmv rfl) ?_
     refine LP rfl rfl rfl (xnc rfl) ?_
     refine LP rfl rfl rfl (xfa fa116_0 rfl) ?_
     have le5 : Le w w9 := (hq5.le (hl1.trans (hl2.trans (hl3.trans hl4))) (inc (Nat.le_refl _) hb1z inn))
     refine LS rfl rfl rfl (fun w' hw' => (xld sc2 rfl (cl_bk (hw'.bk (ni_old (Nat.lt_of_lt_of_le (bk_lt hb) (Nat.le_refl _)) hb1z ni_nil) (Le.bk le5 hb)) rfl))) ?_
     refine LP rfl rfl rfl (xmv rfl) ?_
     refine LP rfl rfl rfl (xnc rfl) ?_
     refine LP rfl rfl rfl (xfa fa116_2 rfl) ?_
     refine LS rfl rfl rfl (fun w' hw' => (xld sc2 rfl (cl_bk (hw'.bk (ni_old (Nat.lt_of_lt_of_le (bk_lt hb) (Nat.le_refl _)) hb1z ni_nil) (Le.bk le5 hb)) rfl))) ?_
     refine LP rfl rfl rfl (xaddn rfl rfl (by omega)) ?_
     refine LP rfl rfl rfl (xfa fa26_0 rfl) ?_
     refine LU rfl rfl (xsb sz2 (Le.bk (Le.drew w9) hb7) rfl rfl (int_cells _ _) rfl rfl (al_cons rfl al_nil)) ?_
     rintro w10 ⟨hq6, hb8⟩
     dsimp only [put] at hb8
     have hk6 := hq6.ow (Off.cons (Ow.ne_new ho1 (Nat.lt_of_lt_of_le (bk_lt hb1) (Nat.le_trans hl2.size hl3.size))) Off.nil) (hk2.le (Le.drew w9))
     have hk7 := hq6.ow (Off.cons (Ow.ne_new ho2 (Nat.lt_of_lt_of_le (bk_lt hb1) (Nat.le_trans hl2.size hl3.size))) Off.nil) (hk3.le (Le.drew w9))
     have hk8 := hq6.ow (Off.cons (Ow.ne_new ho3 (Nat.lt_of_lt_of_le (bk_lt hb1) (Nat.le_trans hl2.size hl3.size))) Off.nil) (hk4.le (Le.drew w9))
     have hk9 := hq6.ow (Off.cons (Ow.ne_new ho4 (Nat.lt_of_lt_of_le (bk_lt hb1) (Nat.le_trans hl2.size hl3.size))) Off.nil) (hk5.le (Le.drew w9))
     have hk10 := hq6.bk (ni_new hb2z (Nat.lt_of_lt_of_le (bk_lt hb1) (Nat.le_refl _)) ni_nil) (Le.bk (Le.drew w9) hk1)
     have lx1 : Lx [b1] w9 w10 := (hq6.drop (Lx.trans (Lx.refl _ _) (Le.drew w9).lx) (dr_in (by simp) dr_nil))
     refine ⟨lx1, ?_⟩
     refine LP rfl rfl rfl (xfa fa26_1 rfl) ?_
     refine LUt rfl rfl (xsb sz2 hb8 rfl rfl (int_cells _ _) rfl rfl (al_cons rfl al_nil)) ?_
     rintro w11 ⟨hq7, hb9⟩
     dsimp only [put] at hb9
     have hk11 := hq7.ow (Off.cons (Ow.ne_new ho1 (Nat.lt_of_lt_of_le (bk_lt hb1) (Nat.le_trans hl2.size hl3.size))) Off.nil) hk6
     have hk12 := hq7.ow (Off.cons (Ow.ne_new ho2 (Nat.lt_of_lt_of_le (bk_lt hb1) (Nat.le_trans hl2.size hl3.size))) Off.nil) hk7
     have hk13 := hq7.ow (Off.cons (Ow.ne_new ho3 (Nat.lt_of_lt_of_le (bk_lt hb1) (Nat.le_trans hl2.size hl3.size))) Off.nil) hk8
     have hk14 := hq7.ow (Off.cons (Ow.ne_new ho4 (Nat.lt_of_lt_of_le (bk_lt hb1) (Nat.le_trans hl2.size hl3.size))) Off.nil) hk9
     have hk15 := hq7.bk (ni_new hb2z (Nat.lt_of_lt_of_le (bk_lt hb1) (Nat.le_refl _)) ni_nil) hk10
     refine LZ ?_
     refine F_seq ?_
     refine W_seq ?_
     refine W_seq ?_
     refine W_reg (.one 0 (.one 1 (.pure 2 .nil))) rfl ?_
     refine LX rfl rfl rfl (xlb6 ag26 hb9 rfl rfl rfl rfl rfl rfl rfl) trivial ?_
     refine LF rfl rfl rfl has36 rfl (c_check (t := ⟨c.se, (c.rq + (1 : Int)), t.code, t.args, (keysOf t.reads), (keysOf t.writes)⟩) hk11.rd hk12.rd hk13.rd hk14.rd hB (by first | omega | (simp only [List.length_append, List.length_take, List.length_drop, List.length_cons, List.length_nil]; omega))) ?_
     rintro _ w12 ⟨rfl, hl5⟩
     refine ⟨trivial, ?_⟩
     refine LP rfl rfl rfl (xas rfl) ?_
     refine LZ ?_
     refine F_seq ?_
     refine W_seq ?_
     refine W_reg (.pure 0 (.pure 1 .nil)) rfl ?_
     refine LP rfl rfl rfl (xmv rfl) ?_
     refine LP rfl rfl rfl (xneq rfl rfl) ?_
     refine LZ ?_
     refine F_seq ?_
     refine W_cond rfl (fun c7 => ?_) (fun c7 => ?_)
     · -- c7 yes
      try simp only [Bool.not_eq_true', Bool.not_eq_false', decide_eq_true_eq, decide_eq_false_iff_not] at c7
      refine W_seq ?_
      refine W_reg (.pure 0 (.pure 1 (.one 2 (.pure 3 .nil)))) rfl ?_
      refine LP rfl rfl rfl (xbd rfl (bd36_ ())) ?_
      refine LP rfl rfl rfl (xmv rfl) ?_
      refine LU rfl rfl (xsb sz36 (Le.bk hl5 hk15) rfl rfl (agg_cells _) rfl rfl (al_cons rfl (al_cons rfl (al_cons rfl (al_cons rfl (al_cons rfl (al_cons rfl (al_cons rfl (al_cons rfl (al_cons rfl (al_cons rfl al_nil))))))))))) ?_
      rintro w13 ⟨hq8, hb10⟩
      dsimp only [put] at hb10
      have hk16 := hq8.bk (ni_old (Nat.lt_of_lt_of_le (bk_lt hb1) (Nat.le_refl _)) hb2z ni_nil) (Le.bk hl5 hb9)
      have hk17 := hq8.ow (Off.cons (Ow.ne_new ho1 (Nat.lt_of_lt_of_le (bk_lt hb2) hl3.size)) Off.nil) (hk11.le hl5)
      have hk18 := hq8.ow (Off.cons (Ow.ne_new ho2 (Nat.lt_of_lt_of_le (bk_lt hb2) hl3.size)) Off.nil) (hk12.le hl5)
      have hk19 := hq8.ow (Off.cons (Ow.ne_new ho3 (Nat.lt_of_lt_of_le (bk_lt hb2) hl3.size)) Off.nil) (hk13.le hl5)
      have hk20 := hq8.ow (Off.cons (Ow.ne_new ho4 (Nat.lt_of_lt_of_le (bk_lt hb2) hl3.size)) Off.nil) (hk14.le hl5)
      refine ⟨trivial, ?_⟩
      refine LP rfl rfl rfl (xas rfl) ?_
      refine LZ ?_
      refine F_seq ?_
      refine W_ret ?_
      refine F_ret_then ?_
      have hE := submitE_check (c := c) (t := t) (rep := rep) hp hrp hrq
      have le6 : Le w w10 := (hq6.le (le5.trans (Le.drew w9)) (inc (Nat.le_refl _) hb1z inn))
      have le7 : Le w w11 := (hq7.le le6 (inc (Nat.le_refl _) hb1z inn))
      have le8 : Le w w13 := (hq8.le (le7.trans hl5) (inc hl1.size hb2z inn))
      exact F_endR (rs := [.cell 6 36, .tmp 7]) rfl (.cell rfl (run_ld0 ag36 hb10 rfl) (.tmp rfl .nil)) rfl ⟨_, rfl, .inl ⟨by rw [hE]; exact c7, by rw [hE]; rfl, le8⟩⟩
     · -- c7 no
      try simp only [Bool.not_eq_true', Bool.not_eq_false', decide_eq_true_eq, decide_eq_false_iff_not] at c7
      have hE := submitE_check (c := c) (t := t) (rep := rep) hp hrp hrq
      have he : submitE c t rep = 0 := by rw [hE]; simpa using c7
      refine W_skip ?_
      refine F_seq ?_
      refine W_seq ?_
      refine W_draw (.pure 0 (.pure 1 (.pure 2 (.pure 3 (.pure 4 (.still 5 (.pure 6 (.still 7 (.pure 8 (.pure 9 (.pure 10 (.one 11 (.pure 12 (.pure 13 (.tail 14 (.pure 15 (.pure 16 (.tail 17 (.pure 18 (.pure 19 (.tail 20 (.pure 21 (.pure 22 (.tail 23 .nil)))))))))))))))))))))))) (Lx [b] w12) hfol (by kernel_rfl) (pkt pkB) (Le.drew _).lx ?_
      refine LP rfl rfl rfl (xmv rfl) ?_
      refine LP rfl rfl rfl (xmv rfl) ?_
      refine LP rfl rfl rfl (xmv rfl) ?_
      refine LP rfl rfl rfl (xmv rfl) ?_
      refine LP rfl rfl rfl (xmv rfl) ?_
      refine LS rfl rfl rfl (fun w' hw' => (xlb6 ag26 (hw'.bk (ni_new hb1z (Nat.lt_of_lt_of_le (bk_lt hb) (Nat.le_refl _)) ni_nil) (Le.bk hl5 hb9)) rfl rfl rfl rfl rfl rfl rfl)) ?_
      refine LP rfl rfl rfl (xfa fa26_1 rfl) ?_
      refine LS rfl rfl rfl (fun w' hw' => (xld sc2 rfl (cl_bk (hw'.bk (ni_new hb1z (Nat.lt_of_lt_of_le (bk_lt hb) (Nat.le_refl _)) ni_nil) (Le.bk hl5 hb9)) rfl))) ?_
      refine LP rfl rfl rfl (xmv rfl) ?_
      refine LP rfl rfl rfl (xnc rfl) ?_
      refine LP rfl rfl rfl (xfa fa116_4 rfl) ?_
      have le9 : Le w w10 := (hq6.le (le5.trans (Le.drew w9)) (inc (Nat.le_refl _) hb1z inn))
      have le10 : Le w w11 := (hq7.le le9 (inc (Nat.le_refl _) hb1z inn))
      refine LU rfl rfl (xsb sz26 (Le.bk (le10.trans (hl5.trans (Le.drew w12))) hb) rfl rfl (agg_cells _) rfl rfl (al_cons rfl (al_cons rfl (al_cons hk11.rd.sh.one (al_cons hk12.rd.sh.one (al_cons hk13.rd.sh.one (al_cons hk14.rd.sh.one al_nil))))))) ?_
      rintro w14 ⟨hq9, hb11⟩
      dsimp only [put] at hb11
      have hk21 := Lx.rdx2 hq9 hcc.rd rfl (dr_in hbS dr_nil) (Le.rdx (le10.trans (hl5.trans (Le.drew w12))) hcc)
      have hk22 := Lx.rdx2 hq9 hca.rd rfl (dr_in hbS dr_nil) (Le.rdx (le10.trans (hl5.trans (Le.drew w12))) hca)
      have hk23 := Lx.rdx2 hq9 hcr.rd rfl (dr_in hbS dr_nil) (Le.rdx (le10.trans (hl5.trans (Le.drew w12))) hcr)
      have hk24 := Lx.rdx2 hq9 hcw.rd rfl (dr_in hbS dr_nil) (Le.rdx (le10.trans (hl5.trans (Le.drew w12))) hcw)
      have hk25 := Lx.rdx2 hq9 hcl.rd rfl (dr_in hbS dr_nil) (Le.rdx (le10.trans (hl5.trans (Le.drew w12))) hcl)
      have hk26 := hq9.bk (ni_new hb1z (Nat.lt_of_lt_of_le (bk_lt hb) (Nat.le_refl _)) ni_nil) (Le.bk (hl5.trans (Le.drew w12)) hb9)
      have hk27 := hq9.ow (Off.cons (Ow.ne_new ho1 (Nat.lt_of_lt_of_le (bk_lt hb) (Nat.le_trans hl1.size (Nat.le_trans hl2.size hl3.size)))) Off.nil) (hk11.le (hl5.trans (Le.drew w12)))
      have hk28 := hq9.ow (Off.cons (Ow.ne_new ho2 (Nat.lt_of_lt_of_le (bk_lt hb) (Nat.le_trans hl1.size (Nat.le_trans hl2.size hl3.size)))) Off.nil) (hk12.le (hl5.trans (Le.drew w12)))
      have hk29 := hq9.ow (Off.cons (Ow.ne_new ho3 (Nat.lt_of_lt_of_le (bk_lt hb) (Nat.le_trans hl1.size (Nat.le_trans hl2.size hl3.size)))) Off.nil) (hk13.le (hl5.trans (Le.drew w12)))
      have hk30 := hq9.ow (Off.cons (Ow.ne_new ho4 (Nat.lt_of_lt_of_le (bk_lt hb) (Nat.le_trans hl1.size (Nat.le_trans hl2.size hl3.size)))) Off.nil) (hk14.le (hl5.trans (Le.drew w12)))
      have hk31 := hq9.bk (ni_new hb2z (Nat.lt_of_lt_of_le (bk_lt hb) hl1.size) ni_nil) (Le.bk (hl5.trans (Le.drew w12)) hk15)
      have lx2 : Lx [b] w12 w14 := (hq9.drop (Lx.trans (Lx.refl _ _) (Le.drew w12).lx) (dr_in (by simp) dr_nil))
      refine ⟨lx2, ?_⟩
      refine LP rfl rfl rfl (xnc rfl) ?_
      refine LP rfl rfl rfl (xfa fa116_2 rfl) ?_
      refine LUt rfl rfl (xsb sz2 hb11 rfl rfl (int_cells _ _) rfl rfl (al_cons rfl al_nil)) ?_
      rintro w15 ⟨hq10, hb12⟩
      dsimp only [put] at hb12
      have hk32 := hq10.ow (Off.cons (Ow.ne_new ho1 (Nat.lt_of_lt_of_le (bk_lt hb) (Nat.le_trans hl1.size (Nat.le_trans hl2.size hl3.size)))) Off.nil) hk27
      have hk33 := hq10.ow (Off.cons (Ow.ne_new ho2 (Nat.lt_of_lt_of_le (bk_lt hb) (Nat.le_trans hl1.size (Nat.le_trans hl2.size hl3.size)))) Off.nil) hk28
      have hk34 := hq10.ow (Off.cons (Ow.ne_new ho3 (Nat.lt_of_lt_of_le (bk_lt hb) (Nat.le_trans hl1.size (Nat.le_trans hl2.size hl3.size)))) Off.nil) hk29
      have hk35 := hq10.ow (Off.cons (Ow.ne_new ho4 (Nat.lt_of_lt_of_le (bk_lt hb) (Nat.le_trans hl1.size (Nat.le_trans hl2.size hl3.size)))) Off.nil) hk30
      have hk36 := Lx.rdx2 hq10 hcl.rd rfl (dr_in hbS dr_nil) hk25
      have hk37 := hq10.bk (ni_new hb1z (Nat.lt_of_lt_of_le (bk_lt hb) (Nat.le_refl _)) ni_nil) hk26
      have hk38 := hq10.bk (ni_new hb2z (Nat.lt_of_lt_of_le (bk_lt hb) hl1.size) ni_nil) hk31
      refine LP rfl rfl rfl (xnc rfl) ?_
      refine LP rfl rfl rfl (xfa fa116_3 rfl) ?_
      refine LUt rfl rfl (xsb sz4 hb12 rfl rfl (bool_cells _) rfl rfl (al_cons rfl al_nil)) ?_
      rintro w16 ⟨hq11, hb13⟩
      dsimp only [put] at hb13
      have hk39 := hq11.ow (Off.cons (Ow.ne_new ho1 (Nat.lt_of_lt_of_le (bk_lt hb) (Nat.le_trans hl1.size (Nat.le_trans hl2.size hl3.size)))) Off.nil) hk32
      have hk40 := hq11.ow (Off.cons (Ow.ne_new ho2 (Nat.lt_of_lt_of_le (bk_lt hb) (Nat.le_trans hl1.size (Nat.le_trans hl2.size hl3.size)))) Off.nil) hk33
      have hk41 := hq11.ow (Off.cons (Ow.ne_new ho3 (Nat.lt_of_lt_of_le (bk_lt hb) (Nat.le_trans hl1.size (Nat.le_trans hl2.size hl3.size)))) Off.nil) hk34
      have hk42 := hq11.ow (Off.cons (Ow.ne_new ho4 (Nat.lt_of_lt_of_le (bk_lt hb) (Nat.le_trans hl1.size (Nat.le_trans hl2.size hl3.size)))) Off.nil) hk35
      have hk43 := Lx.rdx2 hq11 hcl.rd rfl (dr_in hbS dr_nil) hk36
      have hk44 := hq11.bk (ni_new hb1z (Nat.lt_of_lt_of_le (bk_lt hb) (Nat.le_refl _)) ni_nil) hk37
      have hk45 := hq11.bk (ni_new hb2z (Nat.lt_of_lt_of_le (bk_lt hb) hl1.size) ni_nil) hk38
      refine LP rfl rfl rfl (xnc rfl) ?_
      refine LP rfl rfl rfl (xfa fa116_5 rfl) ?_
      refine LUt rfl rfl (xsb sz3 hb13 rfl rfl (int_cells _ _) rfl rfl (al_cons rfl al_nil)) ?_
      rintro w17 ⟨hq12, hb14⟩
      dsimp only [put] at hb14
      have hk46 := hq12.ow (Off.cons (Ow.ne_new ho1 (Nat.lt_of_lt_of_le (bk_lt hb) (Nat.le_trans hl1.size (Nat.le_trans hl2.size hl3.size)))) Off.nil) hk39
      have hk47 := hq12.ow (Off.cons (Ow.ne_new ho2 (Nat.lt_of_lt_of_le (bk_lt hb) (Nat.le_trans hl1.size (Nat.le_trans hl2.size hl3.size)))) Off.nil) hk40
      have hk48 := hq12.ow (Off.cons (Ow.ne_new ho3 (Nat.lt_of_lt_of_le (bk_lt hb) (Nat.le_trans hl1.size (Nat.le_trans hl2.size hl3.size)))) Off.nil) hk41
      have hk49 := hq12.ow (Off.cons (Ow.ne_new ho4 (Nat.lt_of_lt_of_le (bk_lt hb) (Nat.le_trans hl1.size (Nat.le_trans hl2.size hl3.size)))) Off.nil) hk42
      have hk50 := Lx.rdx2 hq12 hcl.rd rfl (dr_in hbS dr_nil) hk43
      have hk51 := hq12.bk (ni_new hb1z (Nat.lt_of_lt_of_le (bk_lt hb) (Nat.le_refl _)) ni_nil) hk44
      have hk52 := hq12.bk (ni_new hb2z (Nat.lt_of_lt_of_le (bk_lt hb) hl1.size) ni_nil) hk45
      refine LP rfl rfl rfl (xnc rfl) ?_
      refine LP rfl rfl rfl (xfa fa116_6 rfl) ?_
      refine LUt rfl rfl (xsb sz3 hb14 rfl rfl (int_cells _ _) rfl rfl (al_cons rfl al_nil)) ?_
      rintro w18 ⟨hq13, hb15⟩
      dsimp only [put] at hb15
      have hk53 := hq13.ow (Off.cons (Ow.ne_new ho1 (Nat.lt_of_lt_of_le (bk_lt hb) (Nat.le_trans hl1.size (Nat.le_trans hl2.size hl3.size)))) Off.nil) hk46
      have hk54 := hq13.ow (Off.cons (Ow.ne_new ho2 (Nat.lt_of_lt_of_le (bk_lt hb) (Nat.le_trans hl1.size (Nat.le_trans hl2.size hl3.size)))) Off.nil) hk47
      have hk55 := hq13.ow (Off.cons (Ow.ne_new ho3 (Nat.lt_of_lt_of_le (bk_lt hb) (Nat.le_trans hl1.size (Nat.le_trans hl2.size hl3.size)))) Off.nil) hk48
      have hk56 := hq13.ow (Off.cons (Ow.ne_new ho4 (Nat.lt_of_lt_of_le (bk_lt hb) (Nat.le_trans hl1.size (Nat.le_trans hl2.size hl3.size)))) Off.nil) hk49
      have hk57 := Lx.rdx2 hq13 hcl.rd rfl (dr_in hbS dr_nil) hk50
      have hk58 := hq13.bk (ni_new hb1z (Nat.lt_of_lt_of_le (bk_lt hb) (Nat.le_refl _)) ni_nil) hk51
      have hk59 := hq13.bk (ni_new hb2z (Nat.lt_of_lt_of_le (bk_lt hb) hl1.size) ni_nil) hk52
      refine LZ ?_
      refine F_seq ?_
      refine W_seq ?_
      refine W_reg (.pure 0 (.one 1 (.one 2 (.pure 3 .nil)))) rfl ?_
      refine LP rfl rfl rfl (xmv rfl) ?_
      have hcl1 : Cl S w18 116 b (submitC c t rep) := ⟨_, _, _, _, _, hb15, (Ow.rdx hk53 (lt_le hS (Nat.le_trans hl1.size (Nat.le_trans hl2.size hl3.size)))), (Ow.rdx hk54 (lt_le hS (Nat.le_trans hl1.size (Nat.le_trans hl2.size hl3.size)))), (Ow.rdx hk55 (lt_le hS (Nat.le_trans hl1.size (Nat.le_trans hl2.size hl3.size)))), (Ow.rdx hk56 (lt_le hS (Nat.le_trans hl1.size (Nat.le_trans hl2.size hl3.size)))), hk57⟩
      have hrq1 : RdE w18.heap ByteE xc1 t.code := hk53.rd
      have hrq2 : RdE w18.heap IntE xa1 t.args := hk54.rd
      have hrq3 : RdE w18.heap KeyE xr1 (keysOf t.reads) := hk55.rd
      have hrq4 : RdE w18.heap KeyE xw1 (keysOf t.writes) := hk56.rd
      have hrq5 : RdE w18.heap IntE vl c.last.vals := hk57.rd
      refine LF rfl rfl rfl has62 rfl (c_ask hcl1 (submitC_ok hok hsm he) hbS (lt_le hS (Nat.le_trans hl1.size (Nat.le_trans hl2.size (Nat.le_trans hl3.size (Nat.le_trans hl4.size (Nat.le_trans hq5.size (Nat.le_trans (Le.drew w9).size (Nat.le_trans hq6.size (Nat.le_trans hq7.size (Nat.le_trans hl5.size (Nat.le_trans (Le.drew w12).size (Nat.le_trans hq9.size (Nat.le_trans hq10.size (Nat.le_trans hq11.size (Nat.le_trans hq12.size hq13.size)))))))))))))))) ?_
      rintro _ w19 ⟨xc2, xa2, xr2, xw2, rfl, hl6, ho5, ho6, ho7, ho8, hof1⟩
      refine ⟨trivial, ?_⟩
      refine LU rfl rfl (xsb sz36 (Le.bk hl6 hk59) rfl rfl (agg_cells _) rfl rfl (al_cons rfl (al_cons rfl (al_cons rfl (al_cons ho5.rd.sh.one (al_cons ho6.rd.sh.one (al_cons ho7.rd.sh.one (al_cons ho8.rd.sh.one (al_cons rfl (al_cons rfl (al_cons rfl al_nil))))))))))) ?_
      rintro w20 ⟨hq14, hb16⟩
      dsimp only [put] at hb16
      have hk60 := hq14.bk (ni_old (Nat.lt_of_lt_of_le (bk_lt hb) hl1.size) hb2z ni_nil) (Le.bk hl6 hb15)
      have hk61 := hq14.ow (Off.cons (Ow.ne_new ho1 (Nat.lt_of_lt_of_le (bk_lt hb2) hl3.size)) Off.nil) (hk53.le hl6)
      have hk62 := hq14.ow (Off.cons (Ow.ne_new ho2 (Nat.lt_of_lt_of_le (bk_lt hb2) hl3.size)) Off.nil) (hk54.le hl6)
      have hk63 := hq14.ow (Off.cons (Ow.ne_new ho3 (Nat.lt_of_lt_of_le (bk_lt hb2) hl3.size)) Off.nil) (hk55.le hl6)
      have hk64 := hq14.ow (Off.cons (Ow.ne_new ho4 (Nat.lt_of_lt_of_le (bk_lt hb2) hl3.size)) Off.nil) (hk56.le hl6)
      have hk65 := Lx.rdx2 hq14 hcl.rd rfl (dr_new hl1.size hb2z dr_nil) (Le.rdx hl6 hk57)
      have hk66 := hq14.bk (ni_old (Nat.lt_of_lt_of_le (bk_lt hb1) (Nat.le_refl _)) hb2z ni_nil) (Le.bk hl6 hk58)
      have hk67 := hq14.ow (Off.cons (Ow.ne_new ho5 (Nat.lt_of_lt_of_le (bk_lt hb2) (Nat.le_trans hl3.size (Nat.le_trans hl4.size (Nat.le_trans hq5.size (Nat.le_trans (Le.drew w9).size (Nat.le_trans hq6.size (Nat.le_trans hq7.size (Nat.le_trans hl5.size (Nat.le_trans (Le.drew w12).size (Nat.le_trans hq9.size (Nat.le_trans hq10.size (Nat.le_trans hq11.size (Nat.le_trans hq12.size hq13.size)))))))))))))) Off.nil) ho5
      have hk68 := hq14.ow (Off.cons (Ow.ne_new ho6 (Nat.lt_of_lt_of_le (bk_lt hb2) (Nat.le_trans hl3.size (Nat.le_trans hl4.size (Nat.le_trans hq5.size (Nat.le_trans (Le.drew w9).size (Nat.le_trans hq6.size (Nat.le_trans hq7.size (Nat.le_trans hl5.size (Nat.le_trans (Le.drew w12).size (Nat.le_trans hq9.size (Nat.le_trans hq10.size (Nat.le_trans hq11.size (Nat.le_trans hq12.size hq13.size)))))))))))))) Off.nil) ho6
      have hk69 := hq14.ow (Off.cons (Ow.ne_new ho7 (Nat.lt_of_lt_of_le (bk_lt hb2) (Nat.le_trans hl3.size (Nat.le_trans hl4.size (Nat.le_trans hq5.size (Nat.le_trans (Le.drew w9).size (Nat.le_trans hq6.size (Nat.le_trans hq7.size (Nat.le_trans hl5.size (Nat.le_trans (Le.drew w12).size (Nat.le_trans hq9.size (Nat.le_trans hq10.size (Nat.le_trans hq11.size (Nat.le_trans hq12.size hq13.size)))))))))))))) Off.nil) ho7
      have hk70 := hq14.ow (Off.cons (Ow.ne_new ho8 (Nat.lt_of_lt_of_le (bk_lt hb2) (Nat.le_trans hl3.size (Nat.le_trans hl4.size (Nat.le_trans hq5.size (Nat.le_trans (Le.drew w9).size (Nat.le_trans hq6.size (Nat.le_trans hq7.size (Nat.le_trans hl5.size (Nat.le_trans (Le.drew w12).size (Nat.le_trans hq9.size (Nat.le_trans hq10.size (Nat.le_trans hq11.size (Nat.le_trans hq12.size hq13.size)))))))))))))) Off.nil) ho8
      refine ⟨trivial, ?_⟩
      refine LP rfl rfl rfl (xas rfl) ?_
      refine LZ ?_
      refine F_seq ?_
      refine W_ret ?_
      have lx3 : Lx [b] w w9 := (hq5.drop (Lx.trans (Lx.trans (Lx.trans (Lx.trans (Lx.refl _ _) hl1.lx) hl2.lx) hl3.lx) hl4.lx) (dr_new (Nat.le_refl _) hb1z dr_nil))
      have lx4 : Lx [b] w w10 := (hq6.drop (Lx.trans lx3 (Le.drew w9).lx) (dr_new (Nat.le_refl _) hb1z dr_nil))
      have lx5 : Lx [b] w w11 := (hq7.drop lx4 (dr_new (Nat.le_refl _) hb1z dr_nil))
      have lx6 : Lx [b] w w14 := (hq9.drop (Lx.trans (Lx.trans lx5 hl5.lx) (Le.drew w12).lx) (dr_in (by simp) dr_nil))
      have lx7 : Lx [b] w w15 := (hq10.drop lx6 (dr_in (by simp) dr_nil))
      have lx8 : Lx [b] w w16 := (hq11.drop lx7 (dr_in (by simp) dr_nil))
      have lx9 : Lx [b] w w17 := (hq12.drop lx8 (dr_in (by simp) dr_nil))
      have lx10 : Lx [b] w w18 := (hq13.drop lx9 (dr_in (by simp) dr_nil))
      have lx11 : Lx [b] w w20 := (hq14.drop (Lx.trans lx10 hl6.lx) (dr_new hl1.size hb2z dr_nil))
      exact F_endR (rs := [.cell 6 36, .tmp 7]) rfl (.cell rfl (run_ld0 ag36 hb16 rfl) (.tmp rfl .nil)) rfl ⟨_, rfl, .inr ⟨he, _, _, _, _, rfl, lx11, ⟨_, _, _, _, _, hk60, (RdX.more (Ow.rdx hk61 (lt_le hS (Nat.le_trans hl1.size (Nat.le_trans hl2.size hl3.size)))) hrq1 rfl (blks4_ge (Ow.since ho5 (Nat.le_refl _)) (Ow.since ho6 (Nat.le_refl _)) (Ow.since ho7 (Nat.le_refl _)) (Ow.since ho8 (Nat.le_refl _)))), (RdX.more (Ow.rdx hk62 (lt_le hS (Nat.le_trans hl1.size (Nat.le_trans hl2.size hl3.size)))) hrq2 rfl (blks4_ge (Ow.since ho5 (Nat.le_refl _)) (Ow.since ho6 (Nat.le_refl _)) (Ow.since ho7 (Nat.le_refl _)) (Ow.since ho8 (Nat.le_refl _)))), (RdX.more (Ow.rdx hk63 (lt_le hS (Nat.le_trans hl1.size (Nat.le_trans hl2.size hl3.size)))) hrq3 rfl (blks4_ge (Ow.since ho5 (Nat.le_refl _)) (Ow.since ho6 (Nat.le_refl _)) (Ow.since ho7 (Nat.le_refl _)) (Ow.since ho8 (Nat.le_refl _)))), (RdX.more (Ow.rdx hk64 (lt_le hS (Nat.le_trans hl1.size (Nat.le_trans hl2.size hl3.size)))) hrq4 rfl (blks4_ge (Ow.since ho5 (Nat.le_refl _)) (Ow.since ho6 (Nat.le_refl _)) (Ow.since ho7 (Nat.le_refl _)) (Ow.since ho8 (Nat.le_refl _)))), (RdX.more hk65 hrq5 rfl (blks4_ge (Ow.since ho5 (Nat.le_refl _)) (Ow.since ho6 (Nat.le_refl _)) (Ow.since ho7 (Nat.le_refl _)) (Ow.since ho8 (Nat.le_refl _))))⟩, (hk67).base (Nat.le_trans hl1.size (Nat.le_trans hl2.size (Nat.le_trans hl3.size (Nat.le_trans hl4.size (Nat.le_trans hq5.size (Nat.le_trans (Le.drew w9).size (Nat.le_trans hq6.size (Nat.le_trans hq7.size (Nat.le_trans hl5.size (Nat.le_trans (Le.drew w12).size (Nat.le_trans hq9.size (Nat.le_trans hq10.size (Nat.le_trans hq11.size (Nat.le_trans hq12.size hq13.size)))))))))))))), (hk68).base (Nat.le_trans hl1.size (Nat.le_trans hl2.size (Nat.le_trans hl3.size (Nat.le_trans hl4.size (Nat.le_trans hq5.size (Nat.le_trans (Le.drew w9).size (Nat.le_trans hq6.size (Nat.le_trans hq7.size (Nat.le_trans hl5.size (Nat.le_trans (Le.drew w12).size (Nat.le_trans hq9.size (Nat.le_trans hq10.size (Nat.le_trans hq11.size (Nat.le_trans hq12.size hq13.size)))))))))))))), (hk69).base (Nat.le_trans hl1.size (Nat.le_trans hl2.size (Nat.le_trans hl3.size (Nat.le_trans hl4.size (Nat.le_trans hq5.size (Nat.le_trans (Le.drew w9).size (Nat.le_trans hq6.size (Nat.le_trans hq7.size (Nat.le_trans hl5.size (Nat.le_trans (Le.drew w12).size (Nat.le_trans hq9.size (Nat.le_trans hq10.size (Nat.le_trans hq11.size (Nat.le_trans hq12.size hq13.size)))))))))))))), (hk70).base (Nat.le_trans hl1.size (Nat.le_trans hl2.size (Nat.le_trans hl3.size (Nat.le_trans hl4.size (Nat.le_trans hq5.size (Nat.le_trans (Le.drew w9).size (Nat.le_trans hq6.size (Nat.le_trans hq7.size (Nat.le_trans hl5.size (Nat.le_trans (Le.drew w12).size (Nat.le_trans hq9.size (Nat.le_trans hq10.size (Nat.le_trans hq11.size (Nat.le_trans hq12.size hq13.size)))))))))))))), hof1⟩⟩
theorem r_submit {S : List Nat} {b : Nat} {c : Cli} {t : Txn} {vtc vta vtr vtw : Value} {rep : Int} {w : World} (hc : Cl S w 118 b c) (hok : c.ok) (hbS : b ∈ S) (hS : ∀ i ∈ S, i < w.heap.size) (htc : RdX S w.heap ByteE vtc t.code) (hta : RdX S w.heap IntE vta t.args) (htr : RdX S w.heap KeyE vtr t.reads) (htw : RdX S w.heap KeyE vtw t.writes) (hn : t.small) (hB : ∀ x ∈ t.code, 0 ≤ x ∧ x ≤ 255) :
    Fn Try.prog 18 #[.pointer (some ⟨b, 0, none⟩), (.agg #[.int .i64 t.se, .int .i64 t.rq, vtc, vta, vtr, vtw]), .int .i64 rep] w fun v w' => (submitE c t rep ≠ 0 ∧ v = .tuple #[(.agg #[.int .i64 0, .int .i64 zTxn.se, .int .i64 zTxn.rq, .slice none 0 0, .slice none 0 0, .slice none 0 0, .slice none 0 0, .bool false, .slice none 0 0, .int .i64 0]), .int .i64 (submitE c t rep)] ∧ Le w w') ∨ (submitE c t rep = 0 ∧ ∃ xr xw, v = .tuple #[(.agg #[.int .i64 rep, .int .i64 (normT c t).se, .int .i64 (normT c t).rq, vtc, vta, xr, xw, .bool false, .slice none 0 0, .int .i64 0]), .int .i64 0] ∧ Lx [b] w w' ∧ Cl S w' 118 b (submitC c t rep) ∧ RdX S w'.heap KeyE xr (normT c t).reads ∧ RdX S w'.heap KeyE xw (normT c t).writes) := by
 refine Fn.enter 66 [(0, _), (1, _), (2, _)] Try.func18 rfl rfl rfl rfl ?_
 obtain ⟨vc, va, vr, vw, vl, hb, hcc, hca, hcr, hcw, hcl⟩ := id hc
 have hr1 := hok.r1
 have hr2 := hok.r2
 have hq1 := hok.q1
 have hq2 := hok.q2
 have hw1 := hok.w1
 have hw2 := hok.w2
 have ht1 := hok.t1
 have ht2 := hok.t2
 obtain ⟨hzc, hza, hzr, hzw⟩ := hok.sm
 have hzl := hok.lv
 have hsm := hn
 obtain ⟨hnc, hna, hnr, hnw⟩ := hn
 refine W_seq ?_
 refine W_reg (.one 0 (.one 1 (.pure 2 .nil))) rfl ?_
 refine LT rfl rfl rfl (xbox rfl) ?_
 rintro _ w1 ⟨b1, rfl, hl1, hb1, hb1z⟩
 refine ⟨trivial, ?_⟩
 refine LT rfl rfl rfl (xal zr36) ?_
 rintro _ w2 ⟨b2, rfl, hl2, hb2, hb2z⟩
 refine ⟨trivial, ?_⟩
 refine LP rfl rfl rfl (xas rfl) ?_
 refine LZ ?_
 refine F_seq ?_
 refine W_seq ?_
 refine W_seq ?_
 refine W_reg (.pure 0 (.pure 1 (.pure 2 (.one 3 .nil)))) rfl ?_
 refine LP rfl rfl rfl (xmv rfl) ?_
 refine LP rfl rfl rfl (xnc rfl) ?_
 refine LP rfl rfl rfl (xfa fa118_3 rfl) ?_
 refine LX rfl rfl rfl (xld sc4 rfl (cl_bk (Le.bk (hl1.trans hl2) hb) rfl)) trivial ?_
 refine LZ ?_
 refine F_seq ?_
 refine W_cond rfl (fun c1 => ?_) (fun c1 => ?_)
 · -- c1 yes
  have hp : c.pend = true := by simpa using c1
  refine W_seq ?_
  refine W_reg (.pure 0 (.one 1 (.pure 2 .nil))) rfl ?_
  refine LP rfl rfl rfl (xbd rfl (bd36_ ())) ?_
  refine LU rfl rfl (xsb sz36 hb2 rfl rfl (agg_cells _) rfl rfl (al_cons rfl (al_cons rfl (al_cons rfl (al_cons rfl (al_cons rfl (al_cons rfl (al_cons rfl (al_cons rfl (al_cons rfl (al_cons rfl al_nil))))))))))) ?_
  rintro w3 ⟨hq1, hb3⟩
  dsimp only [put] at hb3
  refine ⟨trivial, ?_⟩
  refine LP rfl rfl rfl (xas rfl) ?_
  refine LZ ?_
  refine F_seq ?_
  refine W_ret ?_
  refine F_ret_then ?_
  have hE : submitE c t rep = 251 := by unfold submitE; rw [if_pos (by simpa using hp)]
  have le1 : Le w w3 := (hq1.le (hl1.trans hl2) (inc hl1.size hb2z inn))
  exact F_endR (rs := [.cell 6 36, .tmp 7]) rfl (.cell rfl (run_ld0 ag36 hb3 rfl) (.tmp rfl .nil)) rfl ⟨_, rfl, .inl ⟨by rw [hE]; decide, by rw [hE]; rfl, le1⟩⟩
 · -- c1 no
  have hp : c.pend = false := by simpa using c1
  refine W_skip ?_
  refine F_seq ?_
  refine W_seq ?_
  refine W_seq ?_
  refine W_reg (.pure 0 (.pure 1 (.one 2 (.pure 3 .nil)))) rfl ?_
  refine LP rfl rfl rfl (xmv rfl) ?_
  refine LP rfl rfl rfl (xmv rfl) ?_
  refine LF rfl rfl rfl has63 rfl (r_may (Le.clx (hl1.trans hl2) hc) hok hbS (lt_le hS (Nat.le_trans hl1.size hl2.size))) ?_
  rintro _ w4 ⟨rfl, hl3⟩
  refine ⟨trivial, ?_⟩
  refine LP rfl rfl rfl (xnot rfl) ?_
  refine LZ ?_
  refine F_seq ?_
  refine W_cond rfl (fun c2 => ?_) (fun c2 => ?_)
  · -- c2 yes
   try simp only [Bool.not_eq_true', Bool.not_eq_false', decide_eq_true_eq, decide_eq_false_iff_not] at c2
   refine W_seq ?_
   refine W_reg (.pure 0 (.one 1 (.pure 2 .nil))) rfl ?_
   refine LP rfl rfl rfl (xbd rfl (bd36_ ())) ?_
   refine LU rfl rfl (xsb sz36 (Le.bk hl3 hb2) rfl rfl (agg_cells _) rfl rfl (al_cons rfl (al_cons rfl (al_cons rfl (al_cons rfl (al_cons rfl (al_cons rfl (al_cons rfl (al_cons rfl (al_cons rfl (al_cons rfl al_nil))))))))))) ?_
   rintro w5 ⟨hq2, hb4⟩
   dsimp only [put] at hb4
   refine ⟨trivial, ?_⟩
   refine LP rfl rfl rfl (xas rfl) ?_
   refine LZ ?_
   refine F_seq ?_
   refine W_ret ?_
   refine F_ret_then ?_
   have hE : submitE c t rep = 1 := by unfold submitE; rw [if_neg (by simp [hp]), if_pos (by omega)]
   have le2 : Le w w5 := (hq2.le (hl1.trans (hl2.trans hl3)) (inc hl1.size hb2z inn))
   exact F_endR (rs := [.cell 6 36, .tmp 7]) rfl (.cell rfl (run_ld0 ag36 hb4 rfl) (.tmp rfl .nil)) rfl ⟨_, rfl, .inl ⟨by rw [hE]; decide, by rw [hE]; rfl, le2⟩⟩
  · -- c2 no
   try simp only [Bool.not_eq_true', Bool.not_eq_false', decide_eq_true_eq, decide_eq_false_iff_not] at c2
   refine W_skip ?_
   refine F_seq ?_
   refine W_seq ?_
   refine W_seq ?_
   refine W_reg (.pure 0 (.pure 1 (.pure 2 (.one 3 (.pure 4 .nil))))) rfl ?_
   refine LP rfl rfl rfl (xmv rfl) ?_
   refine LP rfl rfl rfl (xnc rfl) ?_
   refine LP rfl rfl rfl (xfa fa118_2 rfl) ?_
   refine LX rfl rfl rfl (xld sc2 rfl (cl_bk (Le.bk (hl1.trans (hl2.trans hl3)) hb) rfl)) trivial ?_
   refine LP rfl rfl rfl (xgeq rfl rfl) ?_
   refine LZ ?_
   refine F_seq ?_
   refine W_cond rfl (fun c3 => ?_) (fun c3 => ?_)
   · -- c3 yes
    replace c3 := of_decide_eq_true c3
    refine W_seq ?_
    refine W_reg (.pure 0 (.one 1 (.pure 2 .nil))) rfl ?_
    refine LP rfl rfl rfl (xbd rfl (bd36_ ())) ?_
    refine LU rfl rfl (xsb sz36 (Le.bk hl3 hb2) rfl rfl (agg_cells _) rfl rfl (al_cons rfl (al_cons rfl (al_cons rfl (al_cons rfl (al_cons rfl (al_cons rfl (al_cons rfl (al_cons rfl (al_cons rfl (al_cons rfl al_nil))))))))))) ?_
    rintro w6 ⟨hq3, hb5⟩
    dsimp only [put] at hb5
    refine ⟨trivial, ?_⟩
    refine LP rfl rfl rfl (xas rfl) ?_
    refine LZ ?_
    refine F_seq ?_
    refine W_ret ?_
    refine F_ret_then ?_
    have hE : submitE c t rep = 6 := by unfold submitE; rw [if_neg (by simp [hp]), if_neg (by omega), if_pos (by omega)]
    have le3 : Le w w6 := (hq3.le (hl1.trans (hl2.trans hl3)) (inc hl1.size hb2z inn))
    exact F_endR (rs := [.cell 6 36, .tmp 7]) rfl (.cell rfl (run_ld0 ag36 hb5 rfl) (.tmp rfl .nil)) rfl ⟨_, rfl, .inl ⟨by rw [hE]; decide, by rw [hE]; rfl, le3⟩⟩
   · -- c3 no
    replace c3 := of_decide_eq_false c3
    have hrp : ¬ (rep < 0 ∨ c.reps ≤ rep) := by omega
    have hrq : ¬ 1099511627776 ≤ c.rq := by omega
    refine W_skip ?_
    refine F_seq ?_
    refine W_seq ?_
    refine W_reg (.one 0 (.one 1 (.one 2 .nil))) rfl ?_
    refine LX rfl rfl rfl (xlb6 ag26 (Le.bk (hl2.trans hl3) hb1) rfl rfl rfl rfl rfl rfl rfl) trivial ?_
    refine LF rfl rfl rfl has64 rfl (r_normT (t := ⟨t.se, t.rq, t.code, t.args, t.reads, t.writes⟩) (RdE.le (hl1.trans (hl2.trans hl3)) htc.rd) (RdE.le (hl1.trans (hl2.trans hl3)) hta.rd) (RdE.le (hl1.trans (hl2.trans hl3)) htr.rd) (RdE.le (hl1.trans (hl2.trans hl3)) htw.rd) ⟨(by first | omega | (simp only [List.length_append, List.length_take, List.length_drop, List.length_cons, List.length_nil]; omega)), (by first | omega | (simp only [List.length_append, List.length_take, List.length_drop, List.length_cons, List.length_nil]; omega)), (by first | omega | (simp only [List.length_append, List.length_take, List.length_drop, List.length_cons, List.length_nil]; omega)), (by first | omega | (simp only [List.length_append, List.length_take, List.length_drop, List.length_cons, List.length_nil]; omega))⟩) ?_
    rintro _ w7 ⟨xr1, xw1, rfl, hl4, ho1, ho2⟩
    refine ⟨trivial, ?_⟩
    refine LU rfl rfl (xsb sz26 (Le.bk (hl2.trans (hl3.trans hl4)) hb1) rfl rfl (agg_cells _) rfl rfl (al_cons rfl (al_cons rfl (al_cons htc.rd.sh.one (al_cons hta.rd.sh.one (al_cons ho1.rd.sh.one (al_cons ho2.rd.sh.one al_nil))))))) ?_
    rintro w8 ⟨hq4, hb6⟩
    dsimp only [put] at hb6
    have hk1 := hq4.bk (ni_new hb2z (Nat.lt_of_lt_of_le (bk_lt hb1) (Nat.le_refl _)) ni_nil) (Le.bk (hl3.trans hl4) hb2)
    have hk2 := hq4.ow (Off.cons (Ow.ne_new ho1 (Nat.lt_of_lt_of_le (bk_lt hb1) (Nat.le_trans hl2.size hl3.size))) Off.nil) ho1
    have hk3 := hq4.ow (Off.cons (Ow.ne_new ho2 (Nat.lt_of_lt_of_le (bk_lt hb1) (Nat.le_trans hl2.size hl3.size))) Off.nil) ho2
    refine ⟨trivial, ?_⟩
    refine LZ ?_
    refine F_seq ?_
    refine W_seq ?_
    refine W_draw (.pure 0 (.pure 1 (.pure 2 (.still 3 (.pure 4 (.pure 5 (.pure 6 (.still 7 (.pure 8 (.pure 9 (.one 10 (.pure 11 (.tail 12 .nil))))))))))))) (Lx [b1] w8) hfol (by kernel_rfl) (pkt pkB) (Le.drew _).lx ?_
    refine LP rfl rfl rfl (xmv rfl) ?_
    refine LP rfl rfl rfl (xnc rfl) ?_
    refine LP rfl rfl rfl (xfa fa118_0 rfl) ?_
    have le4 : Le w w8 := (hq4.le (hl1.trans (hl2.trans (hl3.trans hl4))) (inc (Nat.le_refl _) hb1z inn))
    refine LS rfl rfl rfl (fun w' hw' => (xld sc2 rfl (cl_bk (hw'.bk (ni_old (Nat.lt_of_lt_of_le (bk_lt hb) (Nat.le_refl _)) hb1z ni_nil) (Le.bk le4 hb)) rfl))) ?_
    refine LP rfl rfl rfl (xmv rfl) ?_
    refine LP rfl rfl rfl (xnc rfl) ?_
    refine LP rfl rfl rfl (xfa fa118_2 rfl) ?_
    refine LS rfl rfl rfl (fun w' hw' => (xld sc2 rfl (cl_bk (hw'.bk (ni_old (Nat.lt_of_lt_of_le (bk_lt hb) (Nat.le_refl _)) hb1z ni_nil) (Le.bk le4 hb)) rfl))) ?_
    refine LP rfl rfl rfl (xaddn rfl rfl (by omega)) ?_
    refine LP rfl rfl rfl (xfa fa26_0 rfl) ?_
    refine LU rfl rfl (xsb sz2 (Le.bk (Le.drew w8) hb6) rfl rfl (int_cells _ _) rfl rfl (al_cons rfl al_nil)) ?_
    rintro w9 ⟨hq5, hb7⟩
    dsimp only [put] at hb7
    have hk4 := hq5.ow (Off.cons (Ow.ne_new ho1 (Nat.lt_of_lt_of_le (bk_lt hb1) (Nat.le_trans hl2.size hl3.size))) Off.nil) (hk2.le (Le.drew w8))
    have hk5 := hq5.ow (Off.cons (Ow.ne_new ho2 (Nat.lt_of_lt_of_le (bk_lt hb1) (Nat.le_trans hl2.size hl3.size))) Off.nil) (hk3.le (Le.drew w8))
    have hk6 := hq5.bk (ni_new hb2z (Nat.lt_of_lt_of_le (bk_lt hb1) (Nat.le_refl _)) ni_nil) (Le.bk (Le.drew w8) hk1)
    have lx1 : Lx [b1] w8 w9 := (hq5.drop (Lx.trans (Lx.refl _ _) (Le.drew w8).lx) (dr_in (by simp) dr_nil))
    refine ⟨lx1, ?_⟩
    refine LP rfl rfl rfl (xfa fa26_1 rfl) ?_
    refine LUt rfl rfl (xsb sz2 hb7 rfl rfl (int_cells _ _) rfl rfl (al_cons rfl al_nil)) ?_
    rintro w10 ⟨hq6, hb8⟩
    dsimp only [put] at hb8
    have hk7 := hq6.ow (Off.cons (Ow.ne_new ho1 (Nat.lt_of_lt_of_le (bk_lt hb1) (Nat.le_trans hl2.size hl3.size))) Off.nil) hk4
    have hk8 := hq6.ow (Off.cons (Ow.ne_new ho2 (Nat.lt_of_lt_of_le (bk_lt hb1) (Nat.le_trans hl2.size hl3.size))) Off.nil) hk5
    have hk9 := hq6.bk (ni_new hb2z (Nat.lt_of_lt_of_le (bk_lt hb1) (Nat.le_refl _)) ni_nil) hk6
    refine LZ ?_
    refine F_seq ?_
    refine W_seq ?_
    refine W_seq ?_
    refine W_reg (.one 0 (.one 1 (.pure 2 .nil))) rfl ?_
    refine LX rfl rfl rfl (xlb6 ag26 hb8 rfl rfl rfl rfl rfl rfl rfl) trivial ?_
    have le5 : Le w w9 := (hq5.le (le4.trans (Le.drew w8)) (inc (Nat.le_refl _) hb1z inn))
    have le6 : Le w w10 := (hq6.le le5 (inc (Nat.le_refl _) hb1z inn))
    refine LF rfl rfl rfl has65 rfl (r_check (t := ⟨c.se, (c.rq + (1 : Int)), t.code, t.args, (keysOf t.reads), (keysOf t.writes)⟩) (RdE.le le6 htc.rd) (RdE.le le6 hta.rd) hk7.rd hk8.rd hB (by first | omega | (simp only [List.length_append, List.length_take, List.length_drop, List.length_cons, List.length_nil]; omega))) ?_
    rintro _ w11 ⟨rfl, hl5⟩
    refine ⟨trivial, ?_⟩
    refine LP rfl rfl rfl (xas rfl) ?_
    refine LZ ?_
    refine F_seq ?_
    refine W_seq ?_
    refine W_reg (.pure 0 (.pure 1 .nil)) rfl ?_
    refine LP rfl rfl rfl (xmv rfl) ?_
    refine LP rfl rfl rfl (xneq rfl rfl) ?_
    refine LZ ?_
    refine F_seq ?_
    refine W_cond rfl (fun c4 => ?_) (fun c4 => ?_)
    · -- c4 yes
     try simp only [Bool.not_eq_true', Bool.not_eq_false', decide_eq_true_eq, decide_eq_false_iff_not] at c4
     refine W_seq ?_
     refine W_reg (.pure 0 (.pure 1 (.one 2 (.pure 3 .nil)))) rfl ?_
     refine LP rfl rfl rfl (xbd rfl (bd36_ ())) ?_
     refine LP rfl rfl rfl (xmv rfl) ?_
     refine LU rfl rfl (xsb sz36 (Le.bk hl5 hk9) rfl rfl (agg_cells _) rfl rfl (al_cons rfl (al_cons rfl (al_cons rfl (al_cons rfl (al_cons rfl (al_cons rfl (al_cons rfl (al_cons rfl (al_cons rfl (al_cons rfl al_nil))))))))))) ?_
     rintro w12 ⟨hq7, hb9⟩
     dsimp only [put] at hb9
     have hk10 := hq7.bk (ni_old (Nat.lt_of_lt_of_le (bk_lt hb1) (Nat.le_refl _)) hb2z ni_nil) (Le.bk hl5 hb8)
     have hk11 := hq7.ow (Off.cons (Ow.ne_new ho1 (Nat.lt_of_lt_of_le (bk_lt hb2) hl3.size)) Off.nil) (hk7.le hl5)
     have hk12 := hq7.ow (Off.cons (Ow.ne_new ho2 (Nat.lt_of_lt_of_le (bk_lt hb2) hl3.size)) Off.nil) (hk8.le hl5)
     refine ⟨trivial, ?_⟩
     refine LP rfl rfl rfl (xas rfl) ?_
     refine LZ ?_
     refine F_seq ?_
     refine W_ret ?_
     refine F_ret_then ?_
     have hE := submitE_check (c := c) (t := t) (rep := rep) hp hrp hrq
     have le7 : Le w w12 := (hq7.le (le6.trans hl5) (inc hl1.size hb2z inn))
     exact F_endR (rs := [.cell 6 36, .tmp 7]) rfl (.cell rfl (run_ld0 ag36 hb9 rfl) (.tmp rfl .nil)) rfl ⟨_, rfl, .inl ⟨by rw [hE]; exact c4, by rw [hE]; rfl, le7⟩⟩
    · -- c4 no
     try simp only [Bool.not_eq_true', Bool.not_eq_false', decide_eq_true_eq, decide_eq_false_iff_not] at c4
     have hE := submitE_check (c := c) (t := t) (rep := rep) hp hrp hrq
     have he : submitE c t rep = 0 := by rw [hE]; simpa using c4
     refine W_skip ?_
     refine F_seq ?_
     refine W_seq ?_
     refine W_draw (.pure 0 (.pure 1 (.pure 2 (.pure 3 (.pure 4 (.still 5 (.pure 6 (.still 7 (.pure 8 (.pure 9 (.pure 10 (.one 11 (.pure 12 (.pure 13 (.one 14 (.pure 15 (.pure 16 (.tail 17 (.pure 18 (.pure 19 (.tail 20 (.pure 21 (.pure 22 (.tail 23 .nil)))))))))))))))))))))))) (Lx [b] w11) hfol (by kernel_rfl) (pkt pkB) (Le.drew _).lx ?_
     refine LP rfl rfl rfl (xmv rfl) ?_
     refine LP rfl rfl rfl (xmv rfl) ?_
     refine LP rfl rfl rfl (xmv rfl) ?_
     refine LP rfl rfl rfl (xmv rfl) ?_
     refine LP rfl rfl rfl (xmv rfl) ?_
     refine LS rfl rfl rfl (fun w' hw' => (xlb6 ag26 (hw'.bk (ni_new hb1z (Nat.lt_of_lt_of_le (bk_lt hb) (Nat.le_refl _)) ni_nil) (Le.bk hl5 hb8)) rfl rfl rfl rfl rfl rfl rfl)) ?_
     refine LP rfl rfl rfl (xfa fa26_1 rfl) ?_
     refine LS rfl rfl rfl (fun w' hw' => (xld sc2 rfl (cl_bk (hw'.bk (ni_new hb1z (Nat.lt_of_lt_of_le (bk_lt hb) (Nat.le_refl _)) ni_nil) (Le.bk hl5 hb8)) rfl))) ?_
     refine LP rfl rfl rfl (xmv rfl) ?_
     refine LP rfl rfl rfl (xnc rfl) ?_
     refine LP rfl rfl rfl (xfa fa118_3 rfl) ?_
     refine LU rfl rfl (xsb sz4 (Le.bk (le6.trans (hl5.trans (Le.drew w11))) hb) rfl rfl (bool_cells _) rfl rfl (al_cons rfl al_nil)) ?_
     rintro w13 ⟨hq8, hb10⟩
     dsimp only [put] at hb10
     have hk13 := Lx.rdx2 hq8 hcc.rd rfl (dr_in hbS dr_nil) (Le.rdx (le6.trans (hl5.trans (Le.drew w11))) hcc)
     have hk14 := Lx.rdx2 hq8 hca.rd rfl (dr_in hbS dr_nil) (Le.rdx (le6.trans (hl5.trans (Le.drew w11))) hca)
     have hk15 := Lx.rdx2 hq8 hcr.rd rfl (dr_in hbS dr_nil) (Le.rdx (le6.trans (hl5.trans (Le.drew w11))) hcr)
     have hk16 := Lx.rdx2 hq8 hcw.rd rfl (dr_in hbS dr_nil) (Le.rdx (le6.trans (hl5.trans (Le.drew w11))) hcw)
     have hk17 := Lx.rdx2 hq8 hcl.rd rfl (dr_in hbS dr_nil) (Le.rdx (le6.trans (hl5.trans (Le.drew w11))) hcl)
     have hk18 := Lx.rdx2 hq8 htc.rd rfl (dr_in hbS dr_nil) (Le.rdx (le6.trans (hl5.trans (Le.drew w11))) htc)
     have hk19 := Lx.rdx2 hq8 hta.rd rfl (dr_in hbS dr_nil) (Le.rdx (le6.trans (hl5.trans (Le.drew w11))) hta)
     have hk20 := Lx.rdx2 hq8 htr.rd rfl (dr_in hbS dr_nil) (Le.rdx (le6.trans (hl5.trans (Le.drew w11))) htr)
     have hk21 := Lx.rdx2 hq8 htw.rd rfl (dr_in hbS dr_nil) (Le.rdx (le6.trans (hl5.trans (Le.drew w11))) htw)
     have hk22 := hq8.bk (ni_new hb1z (Nat.lt_of_lt_of_le (bk_lt hb) (Nat.le_refl _)) ni_nil) (Le.bk (hl5.trans (Le.drew w11)) hb8)
     have hk23 := hq8.ow (Off.cons (Ow.ne_new ho1 (Nat.lt_of_lt_of_le (bk_lt hb) (Nat.le_trans hl1.size (Nat.le_trans hl2.size hl3.size)))) Off.nil) (hk7.le (hl5.trans (Le.drew w11)))
     have hk24 := hq8.ow (Off.cons (Ow.ne_new ho2 (Nat.lt_of_lt_of_le (bk_lt hb) (Nat.le_trans hl1.size (Nat.le_trans hl2.size hl3.size)))) Off.nil) (hk8.le (hl5.trans (Le.drew w11)))
     have hk25 := hq8.bk (ni_new hb2z (Nat.lt_of_lt_of_le (bk_lt hb) hl1.size) ni_nil) (Le.bk (hl5.trans (Le.drew w11)) hk9)
     have lx2 : Lx [b] w11 w13 := (hq8.drop (Lx.trans (Lx.refl _ _) (Le.drew w11).lx) (dr_in (by simp) dr_nil))
     refine ⟨lx2, ?_⟩
     refine LP rfl rfl rfl (xnc rfl) ?_
     refine LP rfl rfl rfl (xfa fa118_4 rfl) ?_
     refine LU rfl rfl (xsb sz26 hb10 rfl rfl (agg_cells _) rfl rfl (al_cons rfl (al_cons rfl (al_cons hk18.rd.sh.one (al_cons hk19.rd.sh.one (al_cons hk23.rd.sh.one (al_cons hk24.rd.sh.one al_nil))))))) ?_
     rintro w14 ⟨hq9, hb11⟩
     dsimp only [put] at hb11
     have hk26 := Lx.rdx2 hq9 hcc.rd rfl (dr_in hbS dr_nil) hk13
     have hk27 := Lx.rdx2 hq9 hca.rd rfl (dr_in hbS dr_nil) hk14
     have hk28 := Lx.rdx2 hq9 hcr.rd rfl (dr_in hbS dr_nil) hk15
     have hk29 := Lx.rdx2 hq9 hcw.rd rfl (dr_in hbS dr_nil) hk16
     have hk30 := Lx.rdx2 hq9 hcl.rd rfl (dr_in hbS dr_nil) hk17
     have hk31 := Lx.rdx2 hq9 htc.rd rfl (dr_in hbS dr_nil) hk18
     have hk32 := Lx.rdx2 hq9 hta.rd rfl (dr_in hbS dr_nil) hk19
     have hk33 := Lx.rdx2 hq9 htr.rd rfl (dr_in hbS dr_nil) hk20
     have hk34 := Lx.rdx2 hq9 htw.rd rfl (dr_in hbS dr_nil) hk21
     have hk35 := hq9.bk (ni_new hb1z (Nat.lt_of_lt_of_le (bk_lt hb) (Nat.le_refl _)) ni_nil) hk22
     have hk36 := hq9.ow (Off.cons (Ow.ne_new ho1 (Nat.lt_of_lt_of_le (bk_lt hb) (Nat.le_trans hl1.size (Nat.le_trans hl2.size hl3.size)))) Off.nil) hk23
     have hk37 := hq9.ow (Off.cons (Ow.ne_new ho2 (Nat.lt_of_lt_of_le (bk_lt hb) (Nat.le_trans hl1.size (Nat.le_trans hl2.size hl3.size)))) Off.nil) hk24
     have hk38 := hq9.bk (ni_new hb2z (Nat.lt_of_lt_of_le (bk_lt hb) hl1.size) ni_nil) hk25
     have lx3 : Lx [b] w11 w13 := (hq8.drop (Lx.trans (Lx.refl _ _) (Le.drew w11).lx) (dr_in (by simp) dr_nil))
     have lx4 : Lx [b] w11 w14 := (hq9.drop lx3 (dr_in (by simp) dr_nil))
     refine ⟨lx4, ?_⟩
     refine LP rfl rfl rfl (xnc rfl) ?_
     refine LP rfl rfl rfl (xfa fa118_2 rfl) ?_
     refine LUt rfl rfl (xsb sz2 hb11 rfl rfl (int_cells _ _) rfl rfl (al_cons rfl al_nil)) ?_
     rintro w15 ⟨hq10, hb12⟩
     dsimp only [put] at hb12
     have hk39 := Lx.rdx2 hq10 htc.rd rfl (dr_in hbS dr_nil) hk31
     have hk40 := Lx.rdx2 hq10 hta.rd rfl (dr_in hbS dr_nil) hk32
     have hk41 := hq10.ow (Off.cons (Ow.ne_new ho1 (Nat.lt_of_lt_of_le (bk_lt hb) (Nat.le_trans hl1.size (Nat.le_trans hl2.size hl3.size)))) Off.nil) hk36
     have hk42 := hq10.ow (Off.cons (Ow.ne_new ho2 (Nat.lt_of_lt_of_le (bk_lt hb) (Nat.le_trans hl1.size (Nat.le_trans hl2.size hl3.size)))) Off.nil) hk37
     have hk43 := Lx.rdx2 hq10 hcl.rd rfl (dr_in hbS dr_nil) hk30
     have hk44 := Lx.rdx2 hq10 htr.rd rfl (dr_in hbS dr_nil) hk33
     have hk45 := Lx.rdx2 hq10 htw.rd rfl (dr_in hbS dr_nil) hk34
     have hk46 := hq10.bk (ni_new hb1z (Nat.lt_of_lt_of_le (bk_lt hb) (Nat.le_refl _)) ni_nil) hk35
     have hk47 := hq10.bk (ni_new hb2z (Nat.lt_of_lt_of_le (bk_lt hb) hl1.size) ni_nil) hk38
     refine LP rfl rfl rfl (xnc rfl) ?_
     refine LP rfl rfl rfl (xfa fa118_5 rfl) ?_
     refine LUt rfl rfl (xsb sz3 hb12 rfl rfl (int_cells _ _) rfl rfl (al_cons rfl al_nil)) ?_
     rintro w16 ⟨hq11, hb13⟩
     dsimp only [put] at hb13
     have hk48 := Lx.rdx2 hq11 htc.rd rfl (dr_in hbS dr_nil) hk39
     have hk49 := Lx.rdx2 hq11 hta.rd rfl (dr_in hbS dr_nil) hk40
     have hk50 := hq11.ow (Off.cons (Ow.ne_new ho1 (Nat.lt_of_lt_of_le (bk_lt hb) (Nat.le_trans hl1.size (Nat.le_trans hl2.size hl3.size)))) Off.nil) hk41
     have hk51 := hq11.ow (Off.cons (Ow.ne_new ho2 (Nat.lt_of_lt_of_le (bk_lt hb) (Nat.le_trans hl1.size (Nat.le_trans hl2.size hl3.size)))) Off.nil) hk42
     have hk52 := Lx.rdx2 hq11 hcl.rd rfl (dr_in hbS dr_nil) hk43
     have hk53 := Lx.rdx2 hq11 htr.rd rfl (dr_in hbS dr_nil) hk44
     have hk54 := Lx.rdx2 hq11 htw.rd rfl (dr_in hbS dr_nil) hk45
     have hk55 := hq11.bk (ni_new hb1z (Nat.lt_of_lt_of_le (bk_lt hb) (Nat.le_refl _)) ni_nil) hk46
     have hk56 := hq11.bk (ni_new hb2z (Nat.lt_of_lt_of_le (bk_lt hb) hl1.size) ni_nil) hk47
     refine LP rfl rfl rfl (xnc rfl) ?_
     refine LP rfl rfl rfl (xfa fa118_6 rfl) ?_
     refine LUt rfl rfl (xsb sz3 hb13 rfl rfl (int_cells _ _) rfl rfl (al_cons rfl al_nil)) ?_
     rintro w17 ⟨hq12, hb14⟩
     dsimp only [put] at hb14
     have hk57 := Lx.rdx2 hq12 htc.rd rfl (dr_in hbS dr_nil) hk48
     have hk58 := Lx.rdx2 hq12 hta.rd rfl (dr_in hbS dr_nil) hk49
     have hk59 := hq12.ow (Off.cons (Ow.ne_new ho1 (Nat.lt_of_lt_of_le (bk_lt hb) (Nat.le_trans hl1.size (Nat.le_trans hl2.size hl3.size)))) Off.nil) hk50
     have hk60 := hq12.ow (Off.cons (Ow.ne_new ho2 (Nat.lt_of_lt_of_le (bk_lt hb) (Nat.le_trans hl1.size (Nat.le_trans hl2.size hl3.size)))) Off.nil) hk51
     have hk61 := Lx.rdx2 hq12 hcl.rd rfl (dr_in hbS dr_nil) hk52
     have hk62 := Lx.rdx2 hq12 htr.rd rfl (dr_in hbS dr_nil) hk53
     have hk63 := Lx.rdx2 hq12 htw.rd rfl (dr_in hbS dr_nil) hk54
     have hk64 := hq12.bk (ni_new hb1z (Nat.lt_of_lt_of_le (bk_lt hb) (Nat.le_refl _)) ni_nil) hk55
     have hk65 := hq12.bk (ni_new hb2z (Nat.lt_of_lt_of_le (bk_lt hb) hl1.size) ni_nil) hk56
     refine LZ ?_
     refine F_seq ?_
     refine W_seq ?_
     refine W_reg (.pure 0 (.one 1 (.pure 2 (.one 3 (.pure 4 .nil))))) rfl ?_
     refine LP rfl rfl rfl (xmv rfl) ?_
     refine LX rfl rfl rfl (xlb6 ag26 hk64 rfl rfl rfl rfl rfl rfl rfl) trivial ?_
     obtain ⟨A1, cp1, hA1⟩ := hk57.rd.sh.form
     subst hA1
     obtain ⟨A2, cp2, hA2⟩ := hk58.rd.sh.form
     subst hA2
     obtain ⟨A3, cp3, hA3⟩ := hk59.rd.sh.form
     subst hA3
     obtain ⟨A4, cp4, hA4⟩ := hk60.rd.sh.form
     subst hA4
     refine LP rfl rfl rfl (xbd rfl (bd36_0iiissss_1iiissss rep c.se (c.rq + (1 : Int)) _ _ _ _ _ _ _ _ _ _ _ _)) ?_
     refine LU rfl rfl (xsb sz36 hk65 rfl rfl (agg_cells _) rfl rfl (al_cons rfl (al_cons rfl (al_cons rfl (al_cons hk57.rd.sh.one (al_cons hk58.rd.sh.one (al_cons hk59.rd.sh.one (al_cons hk60.rd.sh.one (al_cons rfl (al_cons rfl (al_cons rfl al_nil))))))))))) ?_
     rintro w18 ⟨hq13, hb15⟩
     dsimp only [put] at hb15
     have hk66 := hq13.bk (ni_old (Nat.lt_of_lt_of_le (bk_lt hb) hl1.size) hb2z ni_nil) hb14
     have hk67 := Lx.rdx2 hq13 htc.rd rfl (dr_new hl1.size hb2z dr_nil) hk57
     have hk68 := Lx.rdx2 hq13 hta.rd rfl (dr_new hl1.size hb2z dr_nil) hk58
     have hk69 := hq13.ow (Off.cons (Ow.ne_new ho1 (Nat.lt_of_lt_of_le (bk_lt hb2) hl3.size)) Off.nil) hk59
     have hk70 := hq13.ow (Off.cons (Ow.ne_new ho2 (Nat.lt_of_lt_of_le (bk_lt hb2) hl3.size)) Off.nil) hk60
     have hk71 := Lx.rdx2 hq13 hcl.rd rfl (dr_new hl1.size hb2z dr_nil) hk61
     have hk72 := Lx.rdx2 hq13 htr.rd rfl (dr_new hl1.size hb2z dr_nil) hk62
     have hk73 := Lx.rdx2 hq13 htw.rd rfl (dr_new hl1.size hb2z dr_nil) hk63
     have hk74 := hq13.bk (ni_old (Nat.lt_of_lt_of_le (bk_lt hb1) (Nat.le_refl _)) hb2z ni_nil) hk64
     refine ⟨trivial, ?_⟩
     refine LP rfl rfl rfl (xas rfl) ?_
     refine LZ ?_
     refine F_seq ?_
     refine W_ret ?_
     have lx5 : Lx [b] w w8 := (hq4.drop (Lx.trans (Lx.trans (Lx.trans (Lx.trans (Lx.refl _ _) hl1.lx) hl2.lx) hl3.lx) hl4.lx) (dr_new (Nat.le_refl _) hb1z dr_nil))
     have lx6 : Lx [b] w w9 := (hq5.drop (Lx.trans lx5 (Le.drew w8).lx) (dr_new (Nat.le_refl _) hb1z dr_nil))
     have lx7 : Lx [b] w w10 := (hq6.drop lx6 (dr_new (Nat.le_refl _) hb1z dr_nil))
     have lx8 : Lx [b] w w13 := (hq8.drop (Lx.trans (Lx.trans lx7 hl5.lx) (Le.drew w11).lx) (dr_in (by simp) dr_nil))
     have lx9 : Lx [b] w w14 := (hq9.drop lx8 (dr_in (by simp) dr_nil))
     have lx10 : Lx [b] w w15 := (hq10.drop lx9 (dr_in (by simp) dr_nil))
     have lx11 : Lx [b] w w16 := (hq11.drop lx10 (dr_in (by simp) dr_nil))
     have lx12 : Lx [b] w w17 := (hq12.drop lx11 (dr_in (by simp) dr_nil))
     have lx13 : Lx [b] w w18 := (hq13.drop lx12 (dr_new hl1.size hb2z dr_nil))
     exact F_endR (rs := [.cell 6 36, .tmp 7]) rfl (.cell rfl (run_ld0 ag36 hb15 rfl) (.tmp rfl .nil)) rfl ⟨_, rfl, .inr ⟨he, _, _, rfl, lx13, ⟨_, _, _, _, _, hk66, hk67, hk68, (Ow.rdx hk69 (lt_le hS (Nat.le_trans hl1.size (Nat.le_trans hl2.size hl3.size)))), (Ow.rdx hk70 (lt_le hS (Nat.le_trans hl1.size (Nat.le_trans hl2.size hl3.size)))), hk71⟩, (Ow.rdx hk69 (lt_le hS (Nat.le_trans hl1.size (Nat.le_trans hl2.size hl3.size)))), (Ow.rdx hk70 (lt_le hS (Nat.le_trans hl1.size (Nat.le_trans hl2.size hl3.size))))⟩⟩
end Go.Proofs.Ythmhbonhagjnnaa
