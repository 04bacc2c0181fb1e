/- Keys in order. -/
import Derived.Test.YthmhbonhagjnnaaProg
import Derived.Test.YthmhbonhagjnnaaA3
import Derived.Test.YthmhbonhagjnnaaCo
import Derived.KernelRfl
namespace Go.Proofs.Ythmhbonhagjnnaa
open Go.RowKit
set_option linter.unusedVariables false
set_option linter.unusedSimpArgs false
theorem zv40 : ∃ zv, (∀ w, (zeroValue 40).run Try.prog w = .ok zv w) ∧ zv.cells.toList = KeyE.f (0, 0) := ⟨(.agg (KeyE.f (0, 0)).toArray), fun _ => by kernel_rfl, by kernel_rfl⟩
theorem has115 : Has Try.prog 115 Try.f115 := ⟨Try.func115, by kernel_rfl, rfl⟩
theorem has133 : Has Try.prog 133 Try.f133 := ⟨Try.func133, by kernel_rfl, rfl⟩
theorem has134 : Has Try.prog 134 Try.f134 := ⟨Try.func134, by kernel_rfl, rfl⟩
theorem compact {va : Value} {l : List Key} {base : World} {w : World} (ho : Ow w base 40 KeyE va l) (hb : Le base w) :
    Fn Try.prog 134 #[va] w fun v w' => Le base w' ∧ Ow w' base 40 KeyE v (comp l) := by
 refine Fn.enter 61 [(0, _)] Try.func134 rfl rfl rfl rfl ?_
 have hzl := ho.rd.sh.le
 refine W_seq ?_
 refine W_reg (.pure 0 .nil) rfl ?_
 refine LP rfl rfl rfl (xas rfl) ?_
 refine LZ ?_
 refine F_seq ?_
 refine W_seq ?_
 refine W_seq ?_
 refine W_reg (.pure 0 (.pure 1 (.pure 2 .nil))) rfl ?_
 refine LP rfl rfl rfl (xmv rfl) ?_
 refine LP rfl rfl rfl (xlen un24 ho.rd.sh rfl) ?_
 refine LP rfl rfl rfl (xlss rfl rfl) ?_
 refine LZ ?_
 refine F_seq ?_
 refine W_cond rfl (fun c1 => ?_) (fun c1 => ?_)
 · -- c1 yes
  replace c1 := of_decide_eq_true c1
  refine W_seq ?_
  refine W_reg (.pure 0 (.pure 1 .nil)) rfl ?_
  refine LP rfl rfl rfl (xmv rfl) ?_
  refine LP rfl rfl rfl (xas rfl) ?_
  refine LZ ?_
  refine F_seq ?_
  refine W_ret ?_
  refine F_ret_then ?_
  exact F_end1 rfl rfl ⟨_, rfl, hb, by rw [comp_one (by omega)]; exact ho⟩
 · -- c1 no
  replace c1 := of_decide_eq_false c1
  refine W_skip ?_
  refine F_seq ?_
  refine W_seq ?_
  refine W_seq ?_
  refine W_reg (.pure 0 .nil) rfl ?_
  refine LP rfl rfl rfl (xas rfl) ?_
  refine LZ ?_
  refine F_seq ?_
  refine W_block ?_
  refine W_loopv (ι := Nat) (fun k => [(3, .int .i64 (k : Int))]) (fun k w' => Le w w' ∧ 1 ≤ k ∧ k ≤ l.length ∧ comp (l.take k) = l.take k) (fun k => l.length - k) 1 (hvc rfl hvn) ⟨Le.refl _, Nat.le_refl _, by omega, comp_one (by simp; omega)⟩ ?_
  rintro k w1 ⟨hl1, h1, hk, hc⟩
  refine W_seq ?_
  refine W_seq ?_
  refine W_reg (.pure 0 (.pure 1 (.pure 2 (.pure 3 .nil)))) rfl ?_
  refine LP rfl rfl rfl (xmv rfl) ?_
  refine LP rfl rfl rfl (xmv rfl) ?_
  refine LP rfl rfl rfl (xlen un24 ho.rd.sh rfl) ?_
  refine LP rfl rfl rfl (xlss rfl rfl) ?_
  refine LZ ?_
  refine F_seq ?_
  refine W_cond rfl (fun c2 => ?_) (fun c2 => ?_)
  · -- c2 yes
   replace c2 := of_decide_eq_true c2
   obtain ⟨y, hy⟩ : ∃ x, l[k]? = some x := ⟨_, List.getElem?_eq_getElem (by omega)⟩
   obtain ⟨x, hx⟩ : ∃ x, l[k - 1]? = some x := ⟨_, List.getElem?_eq_getElem (by omega)⟩
   refine W_skip ?_
   refine F_seq ?_
   refine W_seq ?_
   refine W_block ?_
   refine W_seq ?_
   refine W_draw (.pure 0 (.pure 1 (.pure 2 (.still 3 (.pure 4 (.pure 5 (.pure 6 (.pure 7 (.still 8 (.pure 9 .nil)))))))))) (Le w1) hfol (by kernel_rfl) (pkt (pkb (pkt (pkt (pkb (pkt pkB)))))) (Le.drew _) ?_
   refine LP rfl rfl rfl (xmv rfl) ?_
   refine LP rfl rfl rfl (xmv rfl) ?_
   refine LP rfl rfl rfl (xix k un24 sz40 ho.rd.sh rfl rfl (by omega) (by omega)) ?_
   refine LS rfl rfl rfl (fun w' hw' => (xle ag40 (RdE.le (hl1.trans hw') ho.rd) hy rfl)) ?_
   refine LP rfl rfl rfl (xmv rfl) ?_
   refine LP rfl rfl rfl (xmv rfl) ?_
   refine LP rfl rfl rfl (xsubn rfl rfl (by omega)) ?_
   refine LP rfl rfl rfl (xix (k - 1) un24 sz40 ho.rd.sh rfl rfl (by omega) (by omega)) ?_
   refine LS rfl rfl rfl (fun w' hw' => (xle ag40 (RdE.le (hl1.trans hw') ho.rd) hx rfl)) ?_
   refine LP rfl rfl rfl (xeqs y x eq40_KeyE rfl rfl) ?_
   refine LZ ?_
   refine F_seq ?_
   refine W_cond rfl (fun c3 => ?_) (fun c3 => ?_)
   · -- c3 yes
    replace c3 := of_decide_eq_true c3
    refine W_seq ?_
    refine W_reg (.pure 0 (.pure 1 (.pure 2 (.pure 3 .nil)))) rfl ?_
    refine LP rfl rfl rfl (xmv rfl) ?_
    refine LP rfl rfl rfl (xmv rfl) ?_
    refine LP rfl rfl rfl (xsubl k un24 sz40 ho.rd.sh rfl rfl (by omega) (by first | omega | (simp only [List.length_append, List.length_take, List.length_drop, List.length_cons, List.length_nil, List.length_set, List.length_replicate, maxLen]; omega))) ?_
    refine LP rfl rfl rfl (xas rfl) ?_
    refine LZ ?_
    refine F_seq ?_
    refine W_seq ?_
    refine W_seq ?_
    refine W_reg (.pure 0 .nil) rfl ?_
    refine LP rfl rfl rfl (xas rfl) ?_
    refine LZ ?_
    refine F_seq ?_
    refine W_block ?_
    refine W_loopv (ι := Nat × Nat × (List Key)) (fun ⟨m, j, r⟩ => [(3, .int .i64 (j : Int)), (5, .int .i64 (m : Int))]) (fun ⟨m, j, r⟩ w' => Le base w' ∧ 1 ≤ m ∧ k + m ≤ l.length ∧ j + 1 ≤ k + m ∧ 1 ≤ j ∧ r.length = l.length ∧ Ow w' base 40 KeyE va r ∧ r.take j = comp (l.take (k + m)) ∧ ∀ i, j ≤ i → r[i]? = l[i]?) (fun ⟨m, j, r⟩ => l.length - m) ⟨1, k, l⟩ (hvc rfl (hvc rfl hvn)) ⟨(hb.trans (hl1.trans (Le.drew w1))), Nat.le_refl _, by omega, by omega, h1, rfl, (ho.le (hl1.trans (Le.drew w1))), comp_go2 h1 hc hx hy c3, fun _ _ => rfl⟩ ?_
    rintro ⟨m, j, r⟩ w2 ⟨hl2, hm1, hkm, hjm, hj1, hrl, hor, hrc, hre⟩
    show W _ _ _ _ _ ([(3, .int .i64 (j : Int)), (5, .int .i64 (m : Int))] ++ _) _
    refine W_seq ?_
    refine W_seq ?_
    refine W_reg (.pure 0 (.pure 1 (.pure 2 (.pure 3 .nil)))) rfl ?_
    refine LP rfl rfl rfl (xmv rfl) ?_
    refine LP rfl rfl rfl (xmv rfl) ?_
    refine LP rfl rfl rfl (xlen un24 (RdE.dropn hor.rd (by first | omega | (simp only [List.length_append, List.length_take, List.length_drop, List.length_cons, List.length_nil, List.length_set, List.length_replicate, maxLen]; omega))).sh rfl) ?_
    refine LP rfl rfl rfl (xlss rfl rfl) ?_
    refine LZ ?_
    refine F_seq ?_
    refine W_cond rfl (fun c4 => ?_) (fun c4 => ?_)
    · -- c4 yes
     replace c4 := of_decide_eq_true c4
     rw [List.length_drop] at c4
     obtain ⟨y', hy'⟩ : ∃ x, l[k + m]? = some x := ⟨_, List.getElem?_eq_getElem (by omega)⟩
     obtain ⟨x', hx'⟩ : ∃ x, l[k + m - 1]? = some x := ⟨_, List.getElem?_eq_getElem (by omega)⟩
     have hyd : (r.drop k)[m]? = some y' := by rw [List.getElem?_drop, hre _ (by omega), hy']
     have hxd : (r.drop k)[m - 1]? = some x' := by rw [List.getElem?_drop, hre _ (by omega), ← hx']; congr 1; omega
     refine W_skip ?_
     refine F_seq ?_
     refine W_seq ?_
     refine W_block ?_
     refine W_seq ?_
     refine W_draw (.pure 0 (.pure 1 (.pure 2 (.still 3 (.pure 4 (.pure 5 (.pure 6 (.pure 7 (.still 8 (.pure 9 .nil)))))))))) (Le w2) hfol (by kernel_rfl) (pkt (pkb (pkt (pkt (pkb (pkt (pkb (pkt (pkt (pkb (pkt pkB))))))))))) (Le.drew _) ?_
     refine LP rfl rfl rfl (xmv rfl) ?_
     refine LP rfl rfl rfl (xmv rfl) ?_
     refine LP rfl rfl rfl (xix m un24 sz40 (RdE.dropn hor.rd (by first | omega | (simp only [List.length_append, List.length_take, List.length_drop, List.length_cons, List.length_nil, List.length_set, List.length_replicate, maxLen]; omega))).sh rfl rfl (by omega) (by first | omega | (simp only [List.length_append, List.length_take, List.length_drop, List.length_cons, List.length_nil, List.length_set, List.length_replicate, maxLen]; omega))) ?_
     refine LS rfl rfl rfl (fun w' hw' => (xle ag40 (RdE.dropn (RdE.le hw' hor.rd) (by first | omega | (simp only [List.length_append, List.length_take, List.length_drop, List.length_cons, List.length_nil, List.length_set, List.length_replicate, maxLen]; omega))) hyd rfl)) ?_
     refine LP rfl rfl rfl (xmv rfl) ?_
     refine LP rfl rfl rfl (xmv rfl) ?_
     refine LP rfl rfl rfl (xsubn rfl rfl (by omega)) ?_
     refine LP rfl rfl rfl (xix (m - 1) un24 sz40 (RdE.dropn hor.rd (by first | omega | (simp only [List.length_append, List.length_take, List.length_drop, List.length_cons, List.length_nil, List.length_set, List.length_replicate, maxLen]; omega))).sh rfl rfl (by omega) (by first | omega | (simp only [List.length_append, List.length_take, List.length_drop, List.length_cons, List.length_nil, List.length_set, List.length_replicate, maxLen]; omega))) ?_
     refine LS rfl rfl rfl (fun w' hw' => (xle ag40 (RdE.dropn (RdE.le hw' hor.rd) (by first | omega | (simp only [List.length_append, List.length_take, List.length_drop, List.length_cons, List.length_nil, List.length_set, List.length_replicate, maxLen]; omega))) hxd rfl)) ?_
     refine LP rfl rfl rfl (xnes (y') (x') eq40_KeyE rfl rfl) ?_
     refine LZ ?_
     refine F_seq ?_
     refine W_cond rfl (fun c5 => ?_) (fun c5 => ?_)
     · -- c5 yes
      try simp only [Bool.not_eq_true', Bool.not_eq_false', decide_eq_true_eq, decide_eq_false_iff_not] at c5
      refine W_seq ?_
      refine W_reg (.pure 0 (.pure 1 (.pure 2 (.pure 3 (.pure 4 (.one 5 (.pure 6 (.one 7 .nil)))))))) rfl ?_
      refine LP rfl rfl rfl (xmv rfl) ?_
      refine LP rfl rfl rfl (xmv rfl) ?_
      refine LP rfl rfl rfl (xmv rfl) ?_
      refine LP rfl rfl rfl (xmv rfl) ?_
      refine LP rfl rfl rfl (xix m un24 sz40 (RdE.dropn hor.rd (by first | omega | (simp only [List.length_append, List.length_take, List.length_drop, List.length_cons, List.length_nil, List.length_set, List.length_replicate, maxLen]; omega))).sh rfl rfl (by omega) (by first | omega | (simp only [List.length_append, List.length_take, List.length_drop, List.length_cons, List.length_nil, List.length_set, List.length_replicate, maxLen]; omega))) ?_
      refine LX rfl rfl rfl (xle ag40 (RdE.dropn (RdE.le (Le.drew w2) hor.rd) (by first | omega | (simp only [List.length_append, List.length_take, List.length_drop, List.length_cons, List.length_nil, List.length_set, List.length_replicate, maxLen]; omega))) hyd rfl) trivial ?_
      obtain ⟨x1, hx1⟩ : ∃ x, r[j]? = some x := ⟨_, List.getElem?_eq_getElem (by omega)⟩
      refine LP rfl rfl rfl (xix j un24 sz40 hor.rd.sh rfl rfl (by omega) (by omega)) ?_
      refine LU rfl rfl (xst sz40 (hor.le (Le.drew w2)) (by first | omega | (simp only [List.length_append, List.length_take, List.length_drop, List.length_cons, List.length_nil, List.length_set, List.length_replicate, maxLen]; omega)) rfl rfl (agg_cells _) rfl) ?_
      rintro w3 ⟨hq1, ho1⟩
      refine ⟨trivial, ?_⟩
      refine LZ ?_
      refine F_seq ?_
      refine W_reg (.pure 0 (.pure 1 (.pure 2 .nil))) rfl ?_
      refine LP rfl rfl rfl (xmv rfl) ?_
      refine LP rfl rfl rfl (xaddn rfl rfl (by omega)) ?_
      refine LP rfl rfl rfl (xas rfl) ?_
      refine LZ ?_
      refine F_block ?_
      refine F_seq ?_
      refine W_reg (.pure 0 (.pure 1 (.pure 2 .nil))) rfl ?_
      refine LP rfl rfl rfl (xmv rfl) ?_
      refine LP rfl rfl rfl (xaddn rfl rfl (by omega)) ?_
      refine LP rfl rfl rfl (xas rfl) ?_
      refine LZ ?_
      have le1 : Le base w3 := (hq1.le (hl2.trans (Le.drew w2)) (Ow.since (hor.le (Le.drew w2)) (Nat.le_refl _)))
      exact F_roundv ⟨m + 1, j + 1, _⟩ ⟨le1, by omega, by omega, by omega, by omega, by simpa using hrl, ho1, comp_go4 hm1 (by omega) hrc hx' hy' c5, comp_go5 hre⟩ (by (try dsimp only); omega) (lk_loop 27 rfl rfl (hvc rfl (hvc rfl hvn)))
     · -- c5 no
      try simp only [Bool.not_eq_true', Bool.not_eq_false', decide_eq_true_eq, decide_eq_false_iff_not] at c5
      refine W_skip ?_
      refine F_block ?_
      refine F_seq ?_
      refine W_reg (.pure 0 (.pure 1 (.pure 2 .nil))) rfl ?_
      refine LP rfl rfl rfl (xmv rfl) ?_
      refine LP rfl rfl rfl (xaddn rfl rfl (by omega)) ?_
      refine LP rfl rfl rfl (xas rfl) ?_
      refine LZ ?_
      exact F_roundv ⟨m + 1, j, r⟩ ⟨(hl2.trans (Le.drew w2)), by omega, by omega, by omega, by omega, hrl, (hor.le (Le.drew w2)), comp_go3 hm1 hrc hx' hy' c5, hre⟩ (by (try dsimp only); omega) (lk_loop 17 rfl rfl (hvc rfl (hvc rfl hvn)))
    · -- c4 no
     replace c4 := of_decide_eq_false c4
     rw [List.length_drop] at c4
     refine W_exit ?_
     refine F_exit_then ?_
     refine F_exit_then ?_
     refine F_exit_here ?_
     refine F_seq ?_
     refine W_seq ?_
     refine W_reg (.pure 0 (.pure 1 (.pure 2 (.one 3 .nil)))) rfl ?_
     refine LP rfl rfl rfl (xmv rfl) ?_
     refine LP rfl rfl rfl (xmv rfl) ?_
     refine LP rfl rfl rfl (xsubl j un24 sz40 hor.rd.sh rfl rfl (by omega) (by first | omega | (simp only [List.length_append, List.length_take, List.length_drop, List.length_cons, List.length_nil, List.length_set, List.length_replicate, maxLen]; omega))) ?_
     obtain ⟨zv, hzv, hzc⟩ := zv40
     refine LT0 rfl rfl (xclr un24 hzv hzc rfl hor (by omega) (by omega) rfl) ?_
     rintro v1 w4 ⟨hq2, ho2⟩
     refine ⟨trivial, ?_⟩
     refine LZ ?_
     refine F_seq ?_
     refine W_seq ?_
     refine W_reg (.pure 0 (.pure 1 (.pure 2 (.pure 3 .nil)))) rfl ?_
     refine LP rfl rfl rfl (xmv rfl) ?_
     refine LP rfl rfl rfl (xmv rfl) ?_
     refine LP rfl rfl rfl (xsubh j un24 sz40 ho2.rd.sh rfl rfl (by omega) (by first | omega | (simp only [List.length_append, List.length_take, List.length_drop, List.length_cons, List.length_nil, List.length_set, List.length_replicate, maxLen]; omega))) ?_
     refine LP rfl rfl rfl (xas rfl) ?_
     refine LZ ?_
     refine F_seq ?_
     refine W_ret ?_
     refine F_ret_block ?_
     refine F_ret_then ?_
     refine F_ret_then ?_
     refine F_ret_block ?_
     refine F_ret_then ?_
     have le2 : Le base w4 := (hq2.le hl2 (Ow.since hor (Nat.le_refl _)))
     have hz := Ow.head (j := j) ho2 (by simp only [List.length_append, List.length_take, List.length_replicate]; omega)
     rw [comp_end hrl (by omega) hrc (by omega)] at hz
     exact F_end1 rfl rfl ⟨_, rfl, le2, hz⟩
   · -- c3 no
    replace c3 := of_decide_eq_false c3
    refine W_skip ?_
    refine F_block ?_
    refine F_seq ?_
    refine W_reg (.pure 0 (.pure 1 (.pure 2 .nil))) rfl ?_
    refine LP rfl rfl rfl (xmv rfl) ?_
    refine LP rfl rfl rfl (xaddn rfl rfl (by omega)) ?_
    refine LP rfl rfl rfl (xas rfl) ?_
    refine LZ ?_
    exact F_roundv (k + 1) ⟨(hl1.trans (Le.drew w1)), by omega, by omega, comp_go h1 hc hx hy c3⟩ (by (try dsimp only); omega) (lk_loop 17 rfl rfl (hvc rfl hvn))
  · -- c2 no
   replace c2 := of_decide_eq_false c2
   refine W_exit ?_
   refine F_exit_then ?_
   refine F_exit_then ?_
   refine F_exit_here ?_
   refine F_seq ?_
   refine W_seq ?_
   refine W_reg (.pure 0 (.pure 1 .nil)) rfl ?_
   refine LP rfl rfl rfl (xmv rfl) ?_
   refine LP rfl rfl rfl (xas rfl) ?_
   refine LZ ?_
   refine F_seq ?_
   refine W_ret ?_
   obtain rfl : k = l.length := by omega
   rw [List.take_length] at hc
   exact F_end1 rfl rfl ⟨_, rfl, (hb.trans hl1), by rw [hc]; exact (ho.le hl1)⟩
theorem shkeys {vl : Value} {l : List Key} {w : World} (hl : RdE w.heap KeyE vl l) (hn : l.length ≤ 4294967296) :
    Fn Try.prog 96 #[vl] w fun v w' => Le w w' ∧ Ow w' w 40 KeyE v (keysOf l) := by
 refine Fn.enter 10 [(0, _)] Try.func96 rfl rfl rfl rfl ?_
 refine W_seq ?_
 refine W_reg (.pure 0 .nil) rfl ?_
 refine LP rfl rfl rfl (xas rfl) ?_
 refine LZ ?_
 refine F_seq ?_
 refine W_seq ?_
 refine W_reg (.pure 0 (.one 1 (.pure 2 .nil))) rfl ?_
 refine LP rfl rfl rfl (xmv rfl) ?_
 refine LF rfl rfl rfl has115 rfl (cloneK hl (by first | omega | (simp only [List.length_append, List.length_take, List.length_drop, List.length_cons, List.length_nil]; omega))) ?_
 rintro v1 w1 ⟨hl1, ho1⟩
 refine ⟨trivial, ?_⟩
 refine LP rfl rfl rfl (xas rfl) ?_
 refine LZ ?_
 refine F_seq ?_
 refine W_seq ?_
 refine W_reg (.pure 0 (.one 1 .nil)) rfl ?_
 refine LP rfl rfl rfl (xmv rfl) ?_
 refine LF rfl rfl rfl has133 rfl (sortF ho1 hl1 (by first | omega | (simp only [List.length_append, List.length_take, List.length_drop, List.length_cons, List.length_nil]; omega))) ?_
 rintro v2 w2 ⟨hl2, ho2⟩
 refine ⟨trivial, ?_⟩
 refine LZ ?_
 refine F_seq ?_
 refine W_seq ?_
 refine W_reg (.pure 0 (.one 1 (.pure 2 .nil))) rfl ?_
 refine LP rfl rfl rfl (xmv rfl) ?_
 refine LF rfl rfl rfl has134 rfl (compact ho2 hl2) ?_
 rintro v3 w3 ⟨hl3, ho3⟩
 refine ⟨trivial, ?_⟩
 refine LP rfl rfl rfl (xas rfl) ?_
 refine LZ ?_
 refine F_seq ?_
 refine W_ret ?_
 exact F_end1 rfl rfl ⟨_, rfl, hl3, by rw [← keys_sorted]; exact ho3⟩
end Go.Proofs.Ythmhbonhagjnnaa
