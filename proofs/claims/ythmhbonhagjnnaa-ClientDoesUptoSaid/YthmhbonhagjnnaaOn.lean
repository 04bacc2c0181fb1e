/- How the statements' arguments are opened. -/
import Derived.Test.YthmhbonhagjnnaaRt
import Derived.Test.YthmhbonhagjnnaaLp
import Derived.KernelRfl
namespace Go.Proofs.Ythmhbonhagjnnaa
open Go.ChangeShapes Go.WideShapes Go.RowKit Go.Deep
set_option linter.unusedVariables false
set_option linter.unusedSimpArgs false
theorem sum_one {α : Type} (l : List α) : (l.map one').sum = l.length := by
  induction l with
  | nil => rfl
  | cons a l ih => simp only [List.map_cons, List.sum_cons, ih, one', List.length_cons]; omega
theorem ocells40 : Try.prog.cellsOf 40 = 2 := by kernel_rfl
theorem ocells21 : Try.prog.cellsOf 21 = 1 := by kernel_rfl
theorem oun21 : Try.prog.underlying 21 = some (.int .i32) := by kernel_rfl
theorem ocells2 : Try.prog.cellsOf 2 = 1 := by kernel_rfl
theorem oun2 : Try.prog.underlying 2 = some (.int .i64) := by kernel_rfl
theorem ocells75 : Try.prog.cellsOf 75 = 3 := by kernel_rfl
theorem ocells26 : Try.prog.cellsOf 26 = 6 := by kernel_rfl
theorem ocells22 : Try.prog.cellsOf 22 = 1 := by kernel_rfl
theorem oun22 : Try.prog.underlying 22 = some (.slice 5) := by kernel_rfl
theorem ocells5 : Try.prog.cellsOf 5 = 1 := by kernel_rfl
theorem oun5 : Try.prog.underlying 5 = some (.int .u8) := by kernel_rfl
theorem ocells23 : Try.prog.cellsOf 23 = 1 := by kernel_rfl
theorem oun23 : Try.prog.underlying 23 = some (.slice 2) := by kernel_rfl
theorem ocells24 : Try.prog.cellsOf 24 = 1 := by kernel_rfl
theorem oun24 : Try.prog.underlying 24 = some (.slice 40) := by kernel_rfl
theorem ocells57 : Try.prog.cellsOf 57 = 19 := by kernel_rfl
theorem ocells3 : Try.prog.cellsOf 3 = 1 := by kernel_rfl
theorem oun3 : Try.prog.underlying 3 = some (.int .i64) := by kernel_rfl
theorem ocells52 : Try.prog.cellsOf 52 = 6 := by kernel_rfl
theorem ocells50 : Try.prog.cellsOf 50 = 4 := by kernel_rfl
theorem ocells4 : Try.prog.cellsOf 4 = 1 := by kernel_rfl
theorem oun4 : Try.prog.underlying 4 = some .bool := by kernel_rfl
theorem ocells55 : Try.prog.cellsOf 55 = 3 := by kernel_rfl
theorem ocells28 : Try.prog.cellsOf 28 = 1 := by kernel_rfl
theorem oun28 : Try.prog.underlying 28 = some (.int .i64) := by kernel_rfl
theorem ocells53 : Try.prog.cellsOf 53 = 1 := by kernel_rfl
theorem oun53 : Try.prog.underlying 53 = some (.slice 75) := by kernel_rfl
theorem opn40 : OpnE Try.prog 40 KeyE (fun _ k => kok k) one' := fun H enc w fuel cs x h => by
  have hlen : cs.length = 2 := (opn_fields Try.underlying40 h).choose_spec.choose_spec.2.1.trans ocells40
  match cs, hlen with
  | [c0, c1], _ =>
    obtain ⟨ys1, n2, hx3, hl4, hyl5, hf6⟩ := opn_fields Try.underlying40 h
    match ys1, hyl5 with
    | [y7, y8], _ =>
      have h9 := hf6 0 _ rfl
      simp only [ocells21, List.drop_zero, List.drop_succ_cons, List.take_succ_cons, List.take_zero, List.getElem?_cons_zero, List.getElem?_cons_succ, List.getElem_toArray, List.getElem_cons_zero, List.getElem_cons_succ] at h9
      obtain ⟨x10, e11, ey12, hw13⟩ := DataW.trod_int oun21 h9
      obtain rfl : c0 = .int .i32 x10 := (List.cons.inj e11).1
      subst ey12
      have h14 := hf6 1 _ rfl
      simp only [ocells2, List.drop_zero, List.drop_succ_cons, List.take_succ_cons, List.take_zero, List.getElem?_cons_zero, List.getElem?_cons_succ, List.getElem_toArray, List.getElem_cons_zero, List.getElem_cons_succ] at h14
      obtain ⟨x15, e16, ey17, hw18⟩ := DataW.trod_int oun2 h14
      obtain rfl : c1 = .int .i64 x15 := (List.cons.inj e16).1
      subst ey17
      exact ⟨(x10, x15), rfl, ⟨wf_i32 hw13, wf_i64 hw18⟩, by simp only [one', hx3, Rows.uptoBulk, Rows.uptoBulkAll, List.map_cons, List.map_nil, one']; omega⟩
theorem opn75 : OpnE Try.prog 75 PairE (fun _ p => kok p.1 ∧ i64ok p.2) one' := fun H enc w fuel cs x h => by
  have hlen : cs.length = 3 := (opn_fields Try.underlying75 h).choose_spec.choose_spec.2.1.trans ocells75
  match cs, hlen with
  | [c0, c1, c2], _ =>
    obtain ⟨ys1, n2, hx3, hl4, hyl5, hf6⟩ := opn_fields Try.underlying75 h
    match ys1, hyl5 with
    | [y7, y8], _ =>
      have h9 := hf6 0 _ rfl
      simp only [ocells40, List.drop_zero, List.drop_succ_cons, List.take_succ_cons, List.take_zero, List.getElem?_cons_zero, List.getElem?_cons_succ, List.getElem_toArray, List.getElem_cons_zero, List.getElem_cons_succ] at h9
      obtain ⟨ys10, n11, hx12, hl13, hyl14, hf15⟩ := opn_fields Try.underlying40 h9
      match ys10, hyl14 with
      | [y16, y17], _ =>
        have h18 := hf15 0 _ rfl
        simp only [ocells21, List.drop_zero, List.drop_succ_cons, List.take_succ_cons, List.take_zero, List.getElem?_cons_zero, List.getElem?_cons_succ, List.getElem_toArray, List.getElem_cons_zero, List.getElem_cons_succ] at h18
        obtain ⟨x19, e20, ey21, hw22⟩ := DataW.trod_int oun21 h18
        obtain rfl : c0 = .int .i32 x19 := (List.cons.inj e20).1
        subst ey21
        have h23 := hf15 1 _ rfl
        simp only [ocells2, List.drop_zero, List.drop_succ_cons, List.take_succ_cons, List.take_zero, List.getElem?_cons_zero, List.getElem?_cons_succ, List.getElem_toArray, List.getElem_cons_zero, List.getElem_cons_succ] at h23
        obtain ⟨x24, e25, ey26, hw27⟩ := DataW.trod_int oun2 h23
        obtain rfl : c1 = .int .i64 x24 := (List.cons.inj e25).1
        subst ey26
        have h28 := hf6 1 _ rfl
        simp only [ocells2, List.drop_zero, List.drop_succ_cons, List.take_succ_cons, List.take_zero, List.getElem?_cons_zero, List.getElem?_cons_succ, List.getElem_toArray, List.getElem_cons_zero, List.getElem_cons_succ] at h28
        obtain ⟨x29, e30, ey31, hw32⟩ := DataW.trod_int oun2 h28
        obtain rfl : c2 = .int .i64 x29 := (List.cons.inj e30).1
        subst ey31
        exact ⟨((x19, x24), x29), rfl, ⟨⟨wf_i32 hw22, wf_i64 hw27⟩, wf_i64 hw32⟩, by simp only [one', hx3, hx12, Rows.uptoBulk, Rows.uptoBulkAll, List.map_cons, List.map_nil, one']; omega⟩
theorem opn26 : OpnE Try.prog 26 TxnE (TOk) TB := fun H enc w fuel cs x h => by
  have hlen : cs.length = 6 := (opn_fields Try.underlying26 h).choose_spec.choose_spec.2.1.trans ocells26
  match cs, hlen with
  | [c0, c1, c2, c3, c4, c5], _ =>
    obtain ⟨ys1, n2, hx3, hl4, hyl5, hf6⟩ := opn_fields Try.underlying26 h
    match ys1, hyl5 with
    | [y7, y8, y9, y10, y11, y12], _ =>
      have h13 := hf6 0 _ rfl
      simp only [ocells2, List.drop_zero, List.drop_succ_cons, List.take_succ_cons, List.take_zero, List.getElem?_cons_zero, List.getElem?_cons_succ, List.getElem_toArray, List.getElem_cons_zero, List.getElem_cons_succ] at h13
      obtain ⟨x14, e15, ey16, hw17⟩ := DataW.trod_int oun2 h13
      obtain rfl : c0 = .int .i64 x14 := (List.cons.inj e15).1
      subst ey16
      have h18 := hf6 1 _ rfl
      simp only [ocells2, List.drop_zero, List.drop_succ_cons, List.take_succ_cons, List.take_zero, List.getElem?_cons_zero, List.getElem?_cons_succ, List.getElem_toArray, List.getElem_cons_zero, List.getElem_cons_succ] at h18
      obtain ⟨x19, e20, ey21, hw22⟩ := DataW.trod_int oun2 h18
      obtain rfl : c1 = .int .i64 x19 := (List.cons.inj e20).1
      subst ey21
      have h23 := hf6 2 _ rfl
      simp only [ocells22, List.drop_zero, List.drop_succ_cons, List.take_succ_cons, List.take_zero, List.getElem?_cons_zero, List.getElem?_cons_succ, List.getElem_toArray, List.getElem_cons_zero, List.getElem_cons_succ] at h23
      obtain ⟨v24, l25, e26, ho27, hr28, hq29, hb30⟩ := opn_slice oun22 ocells5 (opn_u8 oun5) rfl h23
      obtain rfl : c2 = v24 := (List.cons.inj e26).1
      rw [sum_one] at hb30
      have h31 := hf6 3 _ rfl
      simp only [ocells23, List.drop_zero, List.drop_succ_cons, List.take_succ_cons, List.take_zero, List.getElem?_cons_zero, List.getElem?_cons_succ, List.getElem_toArray, List.getElem_cons_zero, List.getElem_cons_succ] at h31
      obtain ⟨v32, l33, e34, ho35, hr36, hq37, hb38⟩ := opn_slice oun23 ocells2 (opn_i64 oun2) rfl h31
      obtain rfl : c3 = v32 := (List.cons.inj e34).1
      rw [sum_one] at hb38
      have h39 := hf6 4 _ rfl
      simp only [ocells24, List.drop_zero, List.drop_succ_cons, List.take_succ_cons, List.take_zero, List.getElem?_cons_zero, List.getElem?_cons_succ, List.getElem_toArray, List.getElem_cons_zero, List.getElem_cons_succ] at h39
      obtain ⟨v40, l41, e42, ho43, hr44, hq45, hb46⟩ := opn_slice oun24 ocells40 opn40 rfl h39
      obtain rfl : c4 = v40 := (List.cons.inj e42).1
      rw [sum_one] at hb46
      have h47 := hf6 5 _ rfl
      simp only [ocells24, List.drop_zero, List.drop_succ_cons, List.take_succ_cons, List.take_zero, List.getElem?_cons_zero, List.getElem?_cons_succ, List.getElem_toArray, List.getElem_cons_zero, List.getElem_cons_succ] at h47
      obtain ⟨v48, l49, e50, ho51, hr52, hq53, hb54⟩ := opn_slice oun24 ocells40 opn40 rfl h47
      obtain rfl : c5 = v48 := (List.cons.inj e50).1
      rw [sum_one] at hb54
      exact ⟨⟨⟨x14, x19, l25, l33, l41, l49⟩, c2, c3, c4, c5, by intro u hu; simp only [List.mem_cons, List.not_mem_nil, or_false] at hu; rcases hu with rfl | rfl | rfl | rfl <;> assumption⟩, rfl, ⟨hr28, hr36, hr44, hr52, hq29, hq37, hq45, hq53⟩, by simp only [TB, hx3, Rows.uptoBulk, Rows.uptoBulkAll, List.map_cons, List.map_nil, sum_one]; omega⟩
theorem opn57 : OpnE Try.prog 57 OpE (ROk') OB := fun H enc w fuel cs x h => by
  have hlen : cs.length = 19 := (opn_fields Try.underlying57 h).choose_spec.choose_spec.2.1.trans ocells57
  match cs, hlen with
  | [c0, c1, c2, c3, c4, c5, c6, c7, c8, c9, c10, c11, c12, c13, c14, c15, c16, c17, c18], _ =>
    obtain ⟨ys1, n2, hx3, hl4, hyl5, hf6⟩ := opn_fields Try.underlying57 h
    match ys1, hyl5 with
    | [y7, y8, y9, y10, y11, y12, y13], _ =>
      have h14 := hf6 0 _ rfl
      simp only [ocells3, List.drop_zero, List.drop_succ_cons, List.take_succ_cons, List.take_zero, List.getElem?_cons_zero, List.getElem?_cons_succ, List.getElem_toArray, List.getElem_cons_zero, List.getElem_cons_succ] at h14
      obtain ⟨x15, e16, ey17, hw18⟩ := DataW.trod_int oun3 h14
      obtain rfl : c0 = .int .i64 x15 := (List.cons.inj e16).1
      subst ey17
      have h19 := hf6 1 _ rfl
      simp only [ocells26, List.drop_zero, List.drop_succ_cons, List.take_succ_cons, List.take_zero, List.getElem?_cons_zero, List.getElem?_cons_succ, List.getElem_toArray, List.getElem_cons_zero, List.getElem_cons_succ] at h19
      obtain ⟨ys20, n21, hx22, hl23, hyl24, hf25⟩ := opn_fields Try.underlying26 h19
      match ys20, hyl24 with
      | [y26, y27, y28, y29, y30, y31], _ =>
        have h32 := hf25 0 _ rfl
        simp only [ocells2, List.drop_zero, List.drop_succ_cons, List.take_succ_cons, List.take_zero, List.getElem?_cons_zero, List.getElem?_cons_succ, List.getElem_toArray, List.getElem_cons_zero, List.getElem_cons_succ] at h32
        obtain ⟨x33, e34, ey35, hw36⟩ := DataW.trod_int oun2 h32
        obtain rfl : c1 = .int .i64 x33 := (List.cons.inj e34).1
        subst ey35
        have h37 := hf25 1 _ rfl
        simp only [ocells2, List.drop_zero, List.drop_succ_cons, List.take_succ_cons, List.take_zero, List.getElem?_cons_zero, List.getElem?_cons_succ, List.getElem_toArray, List.getElem_cons_zero, List.getElem_cons_succ] at h37
        obtain ⟨x38, e39, ey40, hw41⟩ := DataW.trod_int oun2 h37
        obtain rfl : c2 = .int .i64 x38 := (List.cons.inj e39).1
        subst ey40
        have h42 := hf25 2 _ rfl
        simp only [ocells22, List.drop_zero, List.drop_succ_cons, List.take_succ_cons, List.take_zero, List.getElem?_cons_zero, List.getElem?_cons_succ, List.getElem_toArray, List.getElem_cons_zero, List.getElem_cons_succ] at h42
        obtain ⟨v43, l44, e45, ho46, hr47, hq48, hb49⟩ := opn_slice oun22 ocells5 (opn_u8 oun5) rfl h42
        obtain rfl : c3 = v43 := (List.cons.inj e45).1
        rw [sum_one] at hb49
        have h50 := hf25 3 _ rfl
        simp only [ocells23, List.drop_zero, List.drop_succ_cons, List.take_succ_cons, List.take_zero, List.getElem?_cons_zero, List.getElem?_cons_succ, List.getElem_toArray, List.getElem_cons_zero, List.getElem_cons_succ] at h50
        obtain ⟨v51, l52, e53, ho54, hr55, hq56, hb57⟩ := opn_slice oun23 ocells2 (opn_i64 oun2) rfl h50
        obtain rfl : c4 = v51 := (List.cons.inj e53).1
        rw [sum_one] at hb57
        have h58 := hf25 4 _ rfl
        simp only [ocells24, List.drop_zero, List.drop_succ_cons, List.take_succ_cons, List.take_zero, List.getElem?_cons_zero, List.getElem?_cons_succ, List.getElem_toArray, List.getElem_cons_zero, List.getElem_cons_succ] at h58
        obtain ⟨v59, l60, e61, ho62, hr63, hq64, hb65⟩ := opn_slice oun24 ocells40 opn40 rfl h58
        obtain rfl : c5 = v59 := (List.cons.inj e61).1
        rw [sum_one] at hb65
        have h66 := hf25 5 _ rfl
        simp only [ocells24, List.drop_zero, List.drop_succ_cons, List.take_succ_cons, List.take_zero, List.getElem?_cons_zero, List.getElem?_cons_succ, List.getElem_toArray, List.getElem_cons_zero, List.getElem_cons_succ] at h66
        obtain ⟨v67, l68, e69, ho70, hr71, hq72, hb73⟩ := opn_slice oun24 ocells40 opn40 rfl h66
        obtain rfl : c6 = v67 := (List.cons.inj e69).1
        rw [sum_one] at hb73
        have h74 := hf6 2 _ rfl
        simp only [ocells3, List.drop_zero, List.drop_succ_cons, List.take_succ_cons, List.take_zero, List.getElem?_cons_zero, List.getElem?_cons_succ, List.getElem_toArray, List.getElem_cons_zero, List.getElem_cons_succ] at h74
        obtain ⟨x75, e76, ey77, hw78⟩ := DataW.trod_int oun3 h74
        obtain rfl : c7 = .int .i64 x75 := (List.cons.inj e76).1
        subst ey77
        have h79 := hf6 3 _ rfl
        simp only [ocells52, List.drop_zero, List.drop_succ_cons, List.take_succ_cons, List.take_zero, List.getElem?_cons_zero, List.getElem?_cons_succ, List.getElem_toArray, List.getElem_cons_zero, List.getElem_cons_succ] at h79
        obtain ⟨ys80, n81, hx82, hl83, hyl84, hf85⟩ := opn_fields Try.underlying52 h79
        match ys80, hyl84 with
        | [y86, y87, y88], _ =>
          have h89 := hf85 0 _ rfl
          simp only [ocells2, List.drop_zero, List.drop_succ_cons, List.take_succ_cons, List.take_zero, List.getElem?_cons_zero, List.getElem?_cons_succ, List.getElem_toArray, List.getElem_cons_zero, List.getElem_cons_succ] at h89
          obtain ⟨x90, e91, ey92, hw93⟩ := DataW.trod_int oun2 h89
          obtain rfl : c8 = .int .i64 x90 := (List.cons.inj e91).1
          subst ey92
          have h94 := hf85 1 _ rfl
          simp only [ocells2, List.drop_zero, List.drop_succ_cons, List.take_succ_cons, List.take_zero, List.getElem?_cons_zero, List.getElem?_cons_succ, List.getElem_toArray, List.getElem_cons_zero, List.getElem_cons_succ] at h94
          obtain ⟨x95, e96, ey97, hw98⟩ := DataW.trod_int oun2 h94
          obtain rfl : c9 = .int .i64 x95 := (List.cons.inj e96).1
          subst ey97
          have h99 := hf85 2 _ rfl
          simp only [ocells50, List.drop_zero, List.drop_succ_cons, List.take_succ_cons, List.take_zero, List.getElem?_cons_zero, List.getElem?_cons_succ, List.getElem_toArray, List.getElem_cons_zero, List.getElem_cons_succ] at h99
          obtain ⟨ys100, n101, hx102, hl103, hyl104, hf105⟩ := opn_fields Try.underlying50 h99
          match ys100, hyl104 with
          | [y106, y107, y108, y109], _ =>
            have h110 := hf105 0 _ rfl
            simp only [ocells3, List.drop_zero, List.drop_succ_cons, List.take_succ_cons, List.take_zero, List.getElem?_cons_zero, List.getElem?_cons_succ, List.getElem_toArray, List.getElem_cons_zero, List.getElem_cons_succ] at h110
            obtain ⟨x111, e112, ey113, hw114⟩ := DataW.trod_int oun3 h110
            obtain rfl : c10 = .int .i64 x111 := (List.cons.inj e112).1
            subst ey113
            have h115 := hf105 1 _ rfl
            simp only [ocells23, List.drop_zero, List.drop_succ_cons, List.take_succ_cons, List.take_zero, List.getElem?_cons_zero, List.getElem?_cons_succ, List.getElem_toArray, List.getElem_cons_zero, List.getElem_cons_succ] at h115
            obtain ⟨v116, l117, e118, ho119, hr120, hq121, hb122⟩ := opn_slice oun23 ocells2 (opn_i64 oun2) rfl h115
            obtain rfl : c11 = v116 := (List.cons.inj e118).1
            rw [sum_one] at hb122
            have h123 := hf105 2 _ rfl
            simp only [ocells2, List.drop_zero, List.drop_succ_cons, List.take_succ_cons, List.take_zero, List.getElem?_cons_zero, List.getElem?_cons_succ, List.getElem_toArray, List.getElem_cons_zero, List.getElem_cons_succ] at h123
            obtain ⟨x124, e125, ey126, hw127⟩ := DataW.trod_int oun2 h123
            obtain rfl : c12 = .int .i64 x124 := (List.cons.inj e125).1
            subst ey126
            have h128 := hf105 3 _ rfl
            simp only [ocells3, List.drop_zero, List.drop_succ_cons, List.take_succ_cons, List.take_zero, List.getElem?_cons_zero, List.getElem?_cons_succ, List.getElem_toArray, List.getElem_cons_zero, List.getElem_cons_succ] at h128
            obtain ⟨x129, e130, ey131, hw132⟩ := DataW.trod_int oun3 h128
            obtain rfl : c13 = .int .i64 x129 := (List.cons.inj e130).1
            subst ey131
            have h133 := hf6 4 _ rfl
            simp only [ocells4, List.drop_zero, List.drop_succ_cons, List.take_succ_cons, List.take_zero, List.getElem?_cons_zero, List.getElem?_cons_succ, List.getElem_toArray, List.getElem_cons_zero, List.getElem_cons_succ] at h133
            obtain ⟨b134, e135, ey136⟩ := DataW.trod_bool oun4 h133
            obtain rfl : c14 = .bool b134 := (List.cons.inj e135).1
            subst ey136
            have h137 := hf6 5 _ rfl
            simp only [ocells24, List.drop_zero, List.drop_succ_cons, List.take_succ_cons, List.take_zero, List.getElem?_cons_zero, List.getElem?_cons_succ, List.getElem_toArray, List.getElem_cons_zero, List.getElem_cons_succ] at h137
            obtain ⟨v138, l139, e140, ho141, hr142, hq143, hb144⟩ := opn_slice oun24 ocells40 opn40 rfl h137
            obtain rfl : c15 = v138 := (List.cons.inj e140).1
            rw [sum_one] at hb144
            have h145 := hf6 6 _ rfl
            simp only [ocells55, List.drop_zero, List.drop_succ_cons, List.take_succ_cons, List.take_zero, List.getElem?_cons_zero, List.getElem?_cons_succ, List.getElem_toArray, List.getElem_cons_zero, List.getElem_cons_succ] at h145
            obtain ⟨ys146, n147, hx148, hl149, hyl150, hf151⟩ := opn_fields Try.underlying55 h145
            match ys146, hyl150 with
            | [y152, y153, y154], _ =>
              have h155 := hf151 0 _ rfl
              simp only [ocells28, List.drop_zero, List.drop_succ_cons, List.take_succ_cons, List.take_zero, List.getElem?_cons_zero, List.getElem?_cons_succ, List.getElem_toArray, List.getElem_cons_zero, List.getElem_cons_succ] at h155
              obtain ⟨x156, e157, ey158, hw159⟩ := DataW.trod_int oun28 h155
              obtain rfl : c16 = .int .i64 x156 := (List.cons.inj e157).1
              subst ey158
              have h160 := hf151 1 _ rfl
              simp only [ocells2, List.drop_zero, List.drop_succ_cons, List.take_succ_cons, List.take_zero, List.getElem?_cons_zero, List.getElem?_cons_succ, List.getElem_toArray, List.getElem_cons_zero, List.getElem_cons_succ] at h160
              obtain ⟨x161, e162, ey163, hw164⟩ := DataW.trod_int oun2 h160
              obtain rfl : c17 = .int .i64 x161 := (List.cons.inj e162).1
              subst ey163
              have h165 := hf151 2 _ rfl
              simp only [ocells53, List.drop_zero, List.drop_succ_cons, List.take_succ_cons, List.take_zero, List.getElem?_cons_zero, List.getElem?_cons_succ, List.getElem_toArray, List.getElem_cons_zero, List.getElem_cons_succ] at h165
              obtain ⟨v166, l167, e168, ho169, hr170, hq171, hb172⟩ := opn_slice oun53 ocells75 opn75 rfl h165
              obtain rfl : c18 = v166 := (List.cons.inj e168).1
              rw [sum_one] at hb172
              exact ⟨⟨⟨x15, ⟨x33, x38, l44, l52, l60, l68⟩, x75, ⟨x90, x95, ⟨x111, l117, x124, x129⟩⟩, b134, l139, x156, x161, l167⟩, c3, c4, c5, c6, c11, c15, c18, by intro u hu; simp only [List.mem_cons, List.not_mem_nil, or_false] at hu; rcases hu with rfl | rfl | rfl | rfl | rfl | rfl | rfl <;> assumption⟩, rfl, ⟨hr47, hr55, hr63, hr71, hr120, hr142, hr170, hq48⟩, by simp only [OB, hx3, hx22, hx82, hx102, hx148, Rows.uptoBulk, Rows.uptoBulkAll, List.map_cons, List.map_nil, sum_one]; omega⟩
end Go.Proofs.Ythmhbonhagjnnaa
