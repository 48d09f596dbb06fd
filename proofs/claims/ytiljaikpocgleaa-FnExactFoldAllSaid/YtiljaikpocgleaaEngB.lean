/- the data helpers, each -/
import Derived.Test.YtiljaikpocgleaaEngN
import Derived.Test.YtiljaikpocgleaaDa2
namespace Go.Vm
set_option linter.unusedVariables false
set_option linter.unusedSimpArgs false

theorem row_Byte {r : List T} (h : shR [kB] r = true) : ∃ (a0 : Int), r = [.im (.int .u8 a0)] ∧ True := by
 obtain ⟨t0, r, rfl, h0, h⟩ := shR_cons h
 obtain rfl := shR_nil h
 obtain ⟨a0, rfl⟩ := shT_int h0
 exact ⟨a0, rfl, trivial⟩
theorem rowr_Byte {r : List T} (h : shR [kB] r = true) (hr : r.all roT = true) : ∃ (a0 : Int), r = [.im (.int .u8 a0)] ∧ True := row_Byte h
theorem row_Int {r : List T} (h : shR [kI] r = true) : ∃ (a0 : Int), r = [tI a0] ∧ True := by
 obtain ⟨t0, r, rfl, h0, h⟩ := shR_cons h
 obtain rfl := shR_nil h
 obtain ⟨a0, rfl⟩ := shT_int h0
 exact ⟨a0, rfl, trivial⟩
theorem rowr_Int {r : List T} (h : shR [kI] r = true) (hr : r.all roT = true) : ∃ (a0 : Int), r = [tI a0] ∧ True := row_Int h
theorem row_Agg {r : List T} (h : shR kAggT r = true) : ∃ (a0 : Int) (a1 : Int) (a2 : Int) (a3 : Int) (a4 : Int) (a5 : Int), r = [tI a0, tI a1, tI a2, tI a3, tI a4, tI a5] ∧ True := by
 obtain ⟨t0, r, rfl, h0, h⟩ := shR_cons h
 obtain ⟨t1, r, rfl, h1, h⟩ := shR_cons h
 obtain ⟨t2, r, rfl, h2, h⟩ := shR_cons h
 obtain ⟨t3, r, rfl, h3, h⟩ := shR_cons h
 obtain ⟨t4, r, rfl, h4, h⟩ := shR_cons h
 obtain ⟨t5, r, rfl, h5, h⟩ := shR_cons h
 obtain rfl := shR_nil h
 obtain ⟨a0, rfl⟩ := shT_int h0
 obtain ⟨a1, rfl⟩ := shT_int h1
 obtain ⟨a2, rfl⟩ := shT_int h2
 obtain ⟨a3, rfl⟩ := shT_int h3
 obtain ⟨a4, rfl⟩ := shT_int h4
 obtain ⟨a5, rfl⟩ := shT_int h5
 exact ⟨a0, a1, a2, a3, a4, a5, rfl, trivial⟩
theorem rowr_Agg {r : List T} (h : shR kAggT r = true) (hr : r.all roT = true) : ∃ (a0 : Int) (a1 : Int) (a2 : Int) (a3 : Int) (a4 : Int) (a5 : Int), r = [tI a0, tI a1, tI a2, tI a3, tI a4, tI a5] ∧ True := row_Agg h
theorem row_Frame {r : List T} (h : shR kFrame r = true) : ∃ (a0 : Int) (a1 : Int) (a2 : Int) (a3 : Int), r = [tI a0, tI a1, tI a2, tI a3] ∧ True := by
 obtain ⟨t0, r, rfl, h0, h⟩ := shR_cons h
 obtain ⟨t1, r, rfl, h1, h⟩ := shR_cons h
 obtain ⟨t2, r, rfl, h2, h⟩ := shR_cons h
 obtain ⟨t3, r, rfl, h3, h⟩ := shR_cons h
 obtain rfl := shR_nil h
 obtain ⟨a0, rfl⟩ := shT_int h0
 obtain ⟨a1, rfl⟩ := shT_int h1
 obtain ⟨a2, rfl⟩ := shT_int h2
 obtain ⟨a3, rfl⟩ := shT_int h3
 exact ⟨a0, a1, a2, a3, rfl, trivial⟩
theorem rowr_Frame {r : List T} (h : shR kFrame r = true) (hr : r.all roT = true) : ∃ (a0 : Int) (a1 : Int) (a2 : Int) (a3 : Int), r = [tI a0, tI a1, tI a2, tI a3] ∧ True := row_Frame h
theorem row_Msg {r : List T} (h : shR kMsg r = true) : ∃ (a0 : Int) (a1 : Int) (a2 : Int) (a3 : Int) (a4 : Int), r = [tI a0, tI a1, tI a2, tI a3, tI a4] ∧ True := by
 obtain ⟨t0, r, rfl, h0, h⟩ := shR_cons h
 obtain ⟨t1, r, rfl, h1, h⟩ := shR_cons h
 obtain ⟨t2, r, rfl, h2, h⟩ := shR_cons h
 obtain ⟨t3, r, rfl, h3, h⟩ := shR_cons h
 obtain ⟨t4, r, rfl, h4, h⟩ := shR_cons h
 obtain rfl := shR_nil h
 obtain ⟨a0, rfl⟩ := shT_int h0
 obtain ⟨a1, rfl⟩ := shT_int h1
 obtain ⟨a2, rfl⟩ := shT_int h2
 obtain ⟨a3, rfl⟩ := shT_int h3
 obtain ⟨a4, rfl⟩ := shT_int h4
 exact ⟨a0, a1, a2, a3, a4, rfl, trivial⟩
theorem rowr_Msg {r : List T} (h : shR kMsg r = true) (hr : r.all roT = true) : ∃ (a0 : Int) (a1 : Int) (a2 : Int) (a3 : Int) (a4 : Int), r = [tI a0, tI a1, tI a2, tI a3, tI a4] ∧ True := row_Msg h
theorem row_MsgS {r : List T} (h : shR [.sl kMsg] r = true) : ∃ (fa0 : Fl) (a0 : List (List T)), r = [.sl fa0 5 a0] ∧ shRs kMsg a0 = true := by
 obtain ⟨t0, r, rfl, h0, h⟩ := shR_cons h
 obtain rfl := shR_nil h
 obtain ⟨fa0, a0, rfl, ga0⟩ := shT_sl h0
 exact ⟨fa0, a0, rfl, ga0⟩
theorem rowr_MsgS {r : List T} (h : shR [.sl kMsg] r = true) (hr : r.all roT = true) : ∃ (a0 : List (List T)), r = [.sl .ro 5 a0] ∧ shRs kMsg a0 = true := by
 obtain ⟨fa0, a0, rfl, ga0⟩ := row_MsgS h
 simp only [List.all_cons, List.all_nil, Bool.and_eq_true] at hr
 obtain rfl : fa0 = .ro := by
  have hh : roT (.sl fa0 5 a0) = true := by simp_all
  cases fa0 <;> first | rfl | cases hh
 exact ⟨a0, rfl, ga0⟩
theorem row_Decoder {r : List T} (h : shR kDecoder r = true) : ∃ (fa0 : Fl) (a0 : List (List T)) (a1 : Bool), r = [.sl fa0 1 a0, tB a1] ∧ shRs [kB] a0 = true := by
 obtain ⟨t0, r, rfl, h0, h⟩ := shR_cons h
 obtain ⟨t1, r, rfl, h1, h⟩ := shR_cons h
 obtain rfl := shR_nil h
 obtain ⟨fa0, a0, rfl, ga0⟩ := shT_sl h0
 obtain ⟨a1, rfl⟩ := shT_bool h1
 exact ⟨fa0, a0, a1, rfl, ga0⟩
theorem rowr_Decoder {r : List T} (h : shR kDecoder r = true) (hr : r.all roT = true) : ∃ (a0 : List (List T)) (a1 : Bool), r = [.sl .ro 1 a0, tB a1] ∧ shRs [kB] a0 = true := by
 obtain ⟨fa0, a0, a1, rfl, ga0⟩ := row_Decoder h
 simp only [List.all_cons, List.all_nil, Bool.and_eq_true] at hr
 obtain rfl : fa0 = .ro := by
  have hh : roT (.sl fa0 1 a0) = true := by simp_all
  cases fa0 <;> first | rfl | cases hh
 exact ⟨a0, a1, rfl, ga0⟩
theorem row_Source {r : List T} (h : shR kSource r = true) : ∃ (a0 : Int) (a1 : Int) (a2 : Int) (a3 : Bool) (a4 : Bool), r = [tI a0, tI a1, tI a2, tB a3, tB a4] ∧ True := by
 obtain ⟨t0, r, rfl, h0, h⟩ := shR_cons h
 obtain ⟨t1, r, rfl, h1, h⟩ := shR_cons h
 obtain ⟨t2, r, rfl, h2, h⟩ := shR_cons h
 obtain ⟨t3, r, rfl, h3, h⟩ := shR_cons h
 obtain ⟨t4, r, rfl, h4, h⟩ := shR_cons h
 obtain rfl := shR_nil h
 obtain ⟨a0, rfl⟩ := shT_int h0
 obtain ⟨a1, rfl⟩ := shT_int h1
 obtain ⟨a2, rfl⟩ := shT_int h2
 obtain ⟨a3, rfl⟩ := shT_bool h3
 obtain ⟨a4, rfl⟩ := shT_bool h4
 exact ⟨a0, a1, a2, a3, a4, rfl, trivial⟩
theorem rowr_Source {r : List T} (h : shR kSource r = true) (hr : r.all roT = true) : ∃ (a0 : Int) (a1 : Int) (a2 : Int) (a3 : Bool) (a4 : Bool), r = [tI a0, tI a1, tI a2, tB a3, tB a4] ∧ True := row_Source h
theorem row_Conn {r : List T} (h : shR kConn r = true) : ∃ (fa0 : Fl) (a0 : List (List T)) (a1 : Bool) (a2 : Int) (a3 : Int) (a4 : Int) (a5 : Bool) (a6 : Bool), r = [.sl fa0 1 a0, tB a1, tI a2, tI a3, tI a4, tB a5, tB a6] ∧ shRs [kB] a0 = true := by
 obtain ⟨t0, r, rfl, h0, h⟩ := shR_cons h
 obtain ⟨t1, r, rfl, h1, h⟩ := shR_cons h
 obtain ⟨t2, r, rfl, h2, h⟩ := shR_cons h
 obtain ⟨t3, r, rfl, h3, h⟩ := shR_cons h
 obtain ⟨t4, r, rfl, h4, h⟩ := shR_cons h
 obtain ⟨t5, r, rfl, h5, h⟩ := shR_cons h
 obtain ⟨t6, r, rfl, h6, h⟩ := shR_cons h
 obtain rfl := shR_nil h
 obtain ⟨fa0, a0, rfl, ga0⟩ := shT_sl h0
 obtain ⟨a1, rfl⟩ := shT_bool h1
 obtain ⟨a2, rfl⟩ := shT_int h2
 obtain ⟨a3, rfl⟩ := shT_int h3
 obtain ⟨a4, rfl⟩ := shT_int h4
 obtain ⟨a5, rfl⟩ := shT_bool h5
 obtain ⟨a6, rfl⟩ := shT_bool h6
 exact ⟨fa0, a0, a1, a2, a3, a4, a5, a6, rfl, ga0⟩
theorem rowr_Conn {r : List T} (h : shR kConn r = true) (hr : r.all roT = true) : ∃ (a0 : List (List T)) (a1 : Bool) (a2 : Int) (a3 : Int) (a4 : Int) (a5 : Bool) (a6 : Bool), r = [.sl .ro 1 a0, tB a1, tI a2, tI a3, tI a4, tB a5, tB a6] ∧ shRs [kB] a0 = true := by
 obtain ⟨fa0, a0, a1, a2, a3, a4, a5, a6, rfl, ga0⟩ := row_Conn h
 simp only [List.all_cons, List.all_nil, Bool.and_eq_true] at hr
 obtain rfl : fa0 = .ro := by
  have hh : roT (.sl fa0 1 a0) = true := by simp_all
  cases fa0 <;> first | rfl | cases hh
 exact ⟨a0, a1, a2, a3, a4, a5, a6, rfl, ga0⟩
theorem row_Shard {r : List T} (h : shR kShard r = true) : ∃ (fa0 : Fl) (a0 : List (List T)) (a1 : Int) (a2 : Int) (a3 : Int), r = [.sl fa0 6 a0, tI a1, tI a2, tI a3] ∧ shRs kAggT a0 = true := by
 obtain ⟨t0, r, rfl, h0, h⟩ := shR_cons h
 obtain ⟨t1, r, rfl, h1, h⟩ := shR_cons h
 obtain ⟨t2, r, rfl, h2, h⟩ := shR_cons h
 obtain ⟨t3, r, rfl, h3, h⟩ := shR_cons h
 obtain rfl := shR_nil h
 obtain ⟨fa0, a0, rfl, ga0⟩ := shT_sl h0
 obtain ⟨a1, rfl⟩ := shT_int h1
 obtain ⟨a2, rfl⟩ := shT_int h2
 obtain ⟨a3, rfl⟩ := shT_int h3
 exact ⟨fa0, a0, a1, a2, a3, rfl, ga0⟩
theorem rowr_Shard {r : List T} (h : shR kShard r = true) (hr : r.all roT = true) : ∃ (a0 : List (List T)) (a1 : Int) (a2 : Int) (a3 : Int), r = [.sl .ro 6 a0, tI a1, tI a2, tI a3] ∧ shRs kAggT a0 = true := by
 obtain ⟨fa0, a0, a1, a2, a3, rfl, ga0⟩ := row_Shard h
 simp only [List.all_cons, List.all_nil, Bool.and_eq_true] at hr
 obtain rfl : fa0 = .ro := by
  have hh : roT (.sl fa0 6 a0) = true := by simp_all
  cases fa0 <;> first | rfl | cases hh
 exact ⟨a0, a1, a2, a3, rfl, ga0⟩
theorem row_Setup {r : List T} (h : shR kSetup r = true) : ∃ (a0 : Int) (a1 : Int) (a2 : Int) (a3 : Int) (a4 : Int) (a5 : Int) (a6 : Int) (a7 : Int) (a8 : Int), r = [tI a0, tI a1, tI a2, tI a3, tI a4, tI a5, tI a6, tI a7, tI a8] ∧ True := by
 obtain ⟨t0, r, rfl, h0, h⟩ := shR_cons h
 obtain ⟨t1, r, rfl, h1, h⟩ := shR_cons h
 obtain ⟨t2, r, rfl, h2, h⟩ := shR_cons h
 obtain ⟨t3, r, rfl, h3, h⟩ := shR_cons h
 obtain ⟨t4, r, rfl, h4, h⟩ := shR_cons h
 obtain ⟨t5, r, rfl, h5, h⟩ := shR_cons h
 obtain ⟨t6, r, rfl, h6, h⟩ := shR_cons h
 obtain ⟨t7, r, rfl, h7, h⟩ := shR_cons h
 obtain ⟨t8, r, rfl, h8, h⟩ := shR_cons h
 obtain rfl := shR_nil h
 obtain ⟨a0, rfl⟩ := shT_int h0
 obtain ⟨a1, rfl⟩ := shT_int h1
 obtain ⟨a2, rfl⟩ := shT_int h2
 obtain ⟨a3, rfl⟩ := shT_int h3
 obtain ⟨a4, rfl⟩ := shT_int h4
 obtain ⟨a5, rfl⟩ := shT_int h5
 obtain ⟨a6, rfl⟩ := shT_int h6
 obtain ⟨a7, rfl⟩ := shT_int h7
 obtain ⟨a8, rfl⟩ := shT_int h8
 exact ⟨a0, a1, a2, a3, a4, a5, a6, a7, a8, rfl, trivial⟩
theorem rowr_Setup {r : List T} (h : shR kSetup r = true) (hr : r.all roT = true) : ∃ (a0 : Int) (a1 : Int) (a2 : Int) (a3 : Int) (a4 : Int) (a5 : Int) (a6 : Int) (a7 : Int) (a8 : Int), r = [tI a0, tI a1, tI a2, tI a3, tI a4, tI a5, tI a6, tI a7, tI a8] ∧ True := row_Setup h
theorem row_Tally {r : List T} (h : shR kTally r = true) : ∃ (a0 : Int) (a1 : Int) (a2 : Int) (a3 : Int) (a4 : Int) (a5 : Int), r = [tI a0, tI a1, tI a2, tI a3, tI a4, tI a5] ∧ True := by
 obtain ⟨t0, r, rfl, h0, h⟩ := shR_cons h
 obtain ⟨t1, r, rfl, h1, h⟩ := shR_cons h
 obtain ⟨t2, r, rfl, h2, h⟩ := shR_cons h
 obtain ⟨t3, r, rfl, h3, h⟩ := shR_cons h
 obtain ⟨t4, r, rfl, h4, h⟩ := shR_cons h
 obtain ⟨t5, r, rfl, h5, h⟩ := shR_cons h
 obtain rfl := shR_nil h
 obtain ⟨a0, rfl⟩ := shT_int h0
 obtain ⟨a1, rfl⟩ := shT_int h1
 obtain ⟨a2, rfl⟩ := shT_int h2
 obtain ⟨a3, rfl⟩ := shT_int h3
 obtain ⟨a4, rfl⟩ := shT_int h4
 obtain ⟨a5, rfl⟩ := shT_int h5
 exact ⟨a0, a1, a2, a3, a4, a5, rfl, trivial⟩
theorem rowr_Tally {r : List T} (h : shR kTally r = true) (hr : r.all roT = true) : ∃ (a0 : Int) (a1 : Int) (a2 : Int) (a3 : Int) (a4 : Int) (a5 : Int), r = [tI a0, tI a1, tI a2, tI a3, tI a4, tI a5] ∧ True := row_Tally h
theorem row_Op {r : List T} (h : shR kOp r = true) : ∃ (a0 : Int) (a1 : Int) (a2 : Int) (fa3 : Fl) (a3 : List (List T)), r = [tI a0, tI a1, tI a2, .sl fa3 1 a3] ∧ shRs [kB] a3 = true := by
 obtain ⟨t0, r, rfl, h0, h⟩ := shR_cons h
 obtain ⟨t1, r, rfl, h1, h⟩ := shR_cons h
 obtain ⟨t2, r, rfl, h2, h⟩ := shR_cons h
 obtain ⟨t3, r, rfl, h3, h⟩ := shR_cons h
 obtain rfl := shR_nil h
 obtain ⟨a0, rfl⟩ := shT_int h0
 obtain ⟨a1, rfl⟩ := shT_int h1
 obtain ⟨a2, rfl⟩ := shT_int h2
 obtain ⟨fa3, a3, rfl, ga3⟩ := shT_sl h3
 exact ⟨a0, a1, a2, fa3, a3, rfl, ga3⟩
theorem rowr_Op {r : List T} (h : shR kOp r = true) (hr : r.all roT = true) : ∃ (a0 : Int) (a1 : Int) (a2 : Int) (a3 : List (List T)), r = [tI a0, tI a1, tI a2, .sl .ro 1 a3] ∧ shRs [kB] a3 = true := by
 obtain ⟨a0, a1, a2, fa3, a3, rfl, ga3⟩ := row_Op h
 simp only [List.all_cons, List.all_nil, Bool.and_eq_true] at hr
 obtain rfl : fa3 = .ro := by
  have hh : roT (.sl fa3 1 a3) = true := by simp_all
  cases fa3 <;> first | rfl | cases hh
 exact ⟨a0, a1, a2, a3, rfl, ga3⟩
theorem row_Engine {r : List T} (h : shR kEngine r = true) : ∃ (a0 : Int) (a1 : Int) (a2 : Int) (a3 : Int) (a4 : Int) (a5 : Int) (a6 : Int) (a7 : Int) (a8 : Int) (a9 : Int) (a10 : Int) (fa11 : Fl) (a11 : List (List T)) (fa12 : Fl) (a12 : List (List T)) (fa13 : Fl) (a13 : List (List T)) (fa14 : Fl) (a14 : List (List T)) (fa15 : Fl) (a15 : List (List T)) (a16 : Int) (fa17 : Fl) (a17 : List (List T)) (a18 : Int) (a19 : Int) (a20 : Int) (a21 : Int) (a22 : Int) (a23 : Int), r = [tI a0, tI a1, tI a2, tI a3, tI a4, tI a5, tI a6, tI a7, tI a8, tI a9, tI a10, .sl fa11 7 a11, .sl fa12 5 a12, .sl fa13 1 a13, .sl fa14 4 a14, .sl fa15 6 a15, tI a16, .sl fa17 1 a17, tI a18, tI a19, tI a20, tI a21, tI a22, tI a23] ∧ shRs kConn a11 = true ∧ shRs kMsg a12 = true ∧ shRs [.sl kMsg] a13 = true ∧ shRs kShard a14 = true ∧ shRs kAggT a15 = true ∧ shRs [kI] a17 = true := by
 obtain ⟨t0, r, rfl, h0, h⟩ := shR_cons h
 obtain ⟨t1, r, rfl, h1, h⟩ := shR_cons h
 obtain ⟨t2, r, rfl, h2, h⟩ := shR_cons h
 obtain ⟨t3, r, rfl, h3, h⟩ := shR_cons h
 obtain ⟨t4, r, rfl, h4, h⟩ := shR_cons h
 obtain ⟨t5, r, rfl, h5, h⟩ := shR_cons h
 obtain ⟨t6, r, rfl, h6, h⟩ := shR_cons h
 obtain ⟨t7, r, rfl, h7, h⟩ := shR_cons h
 obtain ⟨t8, r, rfl, h8, h⟩ := shR_cons h
 obtain ⟨t9, r, rfl, h9, h⟩ := shR_cons h
 obtain ⟨t10, r, rfl, h10, h⟩ := shR_cons h
 obtain ⟨t11, r, rfl, h11, h⟩ := shR_cons h
 obtain ⟨t12, r, rfl, h12, h⟩ := shR_cons h
 obtain ⟨t13, r, rfl, h13, h⟩ := shR_cons h
 obtain ⟨t14, r, rfl, h14, h⟩ := shR_cons h
 obtain ⟨t15, r, rfl, h15, h⟩ := shR_cons h
 obtain ⟨t16, r, rfl, h16, h⟩ := shR_cons h
 obtain ⟨t17, r, rfl, h17, h⟩ := shR_cons h
 obtain ⟨t18, r, rfl, h18, h⟩ := shR_cons h
 obtain ⟨t19, r, rfl, h19, h⟩ := shR_cons h
 obtain ⟨t20, r, rfl, h20, h⟩ := shR_cons h
 obtain ⟨t21, r, rfl, h21, h⟩ := shR_cons h
 obtain ⟨t22, r, rfl, h22, h⟩ := shR_cons h
 obtain ⟨t23, r, rfl, h23, h⟩ := shR_cons h
 obtain rfl := shR_nil h
 obtain ⟨a0, rfl⟩ := shT_int h0
 obtain ⟨a1, rfl⟩ := shT_int h1
 obtain ⟨a2, rfl⟩ := shT_int h2
 obtain ⟨a3, rfl⟩ := shT_int h3
 obtain ⟨a4, rfl⟩ := shT_int h4
 obtain ⟨a5, rfl⟩ := shT_int h5
 obtain ⟨a6, rfl⟩ := shT_int h6
 obtain ⟨a7, rfl⟩ := shT_int h7
 obtain ⟨a8, rfl⟩ := shT_int h8
 obtain ⟨a9, rfl⟩ := shT_int h9
 obtain ⟨a10, rfl⟩ := shT_int h10
 obtain ⟨fa11, a11, rfl, ga11⟩ := shT_sl h11
 obtain ⟨fa12, a12, rfl, ga12⟩ := shT_sl h12
 obtain ⟨fa13, a13, rfl, ga13⟩ := shT_sl h13
 obtain ⟨fa14, a14, rfl, ga14⟩ := shT_sl h14
 obtain ⟨fa15, a15, rfl, ga15⟩ := shT_sl h15
 obtain ⟨a16, rfl⟩ := shT_int h16
 obtain ⟨fa17, a17, rfl, ga17⟩ := shT_sl h17
 obtain ⟨a18, rfl⟩ := shT_int h18
 obtain ⟨a19, rfl⟩ := shT_int h19
 obtain ⟨a20, rfl⟩ := shT_int h20
 obtain ⟨a21, rfl⟩ := shT_int h21
 obtain ⟨a22, rfl⟩ := shT_int h22
 obtain ⟨a23, rfl⟩ := shT_int h23
 exact ⟨a0, a1, a2, a3, a4, a5, a6, a7, a8, a9, a10, fa11, a11, fa12, a12, fa13, a13, fa14, a14, fa15, a15, a16, fa17, a17, a18, a19, a20, a21, a22, a23, rfl, ga11, ga12, ga13, ga14, ga15, ga17⟩
theorem rowr_Engine {r : List T} (h : shR kEngine r = true) (hr : r.all roT = true) : ∃ (a0 : Int) (a1 : Int) (a2 : Int) (a3 : Int) (a4 : Int) (a5 : Int) (a6 : Int) (a7 : Int) (a8 : Int) (a9 : Int) (a10 : Int) (a11 : List (List T)) (a12 : List (List T)) (a13 : List (List T)) (a14 : List (List T)) (a15 : List (List T)) (a16 : Int) (a17 : List (List T)) (a18 : Int) (a19 : Int) (a20 : Int) (a21 : Int) (a22 : Int) (a23 : Int), r = [tI a0, tI a1, tI a2, tI a3, tI a4, tI a5, tI a6, tI a7, tI a8, tI a9, tI a10, .sl .ro 7 a11, .sl .ro 5 a12, .sl .ro 1 a13, .sl .ro 4 a14, .sl .ro 6 a15, tI a16, .sl .ro 1 a17, tI a18, tI a19, tI a20, tI a21, tI a22, tI a23] ∧ shRs kConn a11 = true ∧ shRs kMsg a12 = true ∧ shRs [.sl kMsg] a13 = true ∧ shRs kShard a14 = true ∧ shRs kAggT a15 = true ∧ shRs [kI] a17 = true := by
 obtain ⟨a0, a1, a2, a3, a4, a5, a6, a7, a8, a9, a10, fa11, a11, fa12, a12, fa13, a13, fa14, a14, fa15, a15, a16, fa17, a17, a18, a19, a20, a21, a22, a23, rfl, ga11, ga12, ga13, ga14, ga15, ga17⟩ := row_Engine h
 simp only [List.all_cons, List.all_nil, Bool.and_eq_true] at hr
 obtain rfl : fa11 = .ro := by
  have hh : roT (.sl fa11 7 a11) = true := by simp_all
  cases fa11 <;> first | rfl | cases hh
 obtain rfl : fa12 = .ro := by
  have hh : roT (.sl fa12 5 a12) = true := by simp_all
  cases fa12 <;> first | rfl | cases hh
 obtain rfl : fa13 = .ro := by
  have hh : roT (.sl fa13 1 a13) = true := by simp_all
  cases fa13 <;> first | rfl | cases hh
 obtain rfl : fa14 = .ro := by
  have hh : roT (.sl fa14 4 a14) = true := by simp_all
  cases fa14 <;> first | rfl | cases hh
 obtain rfl : fa15 = .ro := by
  have hh : roT (.sl fa15 6 a15) = true := by simp_all
  cases fa15 <;> first | rfl | cases hh
 obtain rfl : fa17 = .ro := by
  have hh : roT (.sl fa17 1 a17) = true := by simp_all
  cases fa17 <;> first | rfl | cases hh
 exact ⟨a0, a1, a2, a3, a4, a5, a6, a7, a8, a9, a10, a11, a12, a13, a14, a15, a16, a17, a18, a19, a20, a21, a22, a23, rfl, ga11, ga12, ga13, ga14, ga15, ga17⟩



theorem b_toFrame {ts : List T} (hr : ts.all roT = true) (h : pToR kFrame ts = true) : body lp0 ET6 70 [.ag ts] [] = some (.ret ⟨[.ag (cpR ts)], [], []⟩) := by
 rw [pToR_eq, Bool.and_eq_true] at h
 obtain ⟨hs, hl⟩ := h
 obtain ⟨a0, a1, a2, a3, rfl, _⟩ := rowr_Frame hs hr
 simp only [lenR, lenT, Bool.and_eq_true, decide_eq_true_eq] at hl
 rw [nf_70]
 simp [pTo_eq, pToR_eq, pEq_eq, pEqR_eq, pSz_eq, pSzR_eq, shR, shT, lenR, lenT, noRo_sOwn, cpR, cpT, hl]


theorem b_toAgg {ts : List T} (hr : ts.all roT = true) (h : pToR kAggT ts = true) : body lp0 ET10 59 [.ag ts] [] = some (.ret ⟨[.ag (cpR ts)], [], []⟩) := by
 rw [pToR_eq, Bool.and_eq_true] at h
 obtain ⟨hs, hl⟩ := h
 obtain ⟨a0, a1, a2, a3, a4, a5, rfl, _⟩ := rowr_Agg hs hr
 simp only [lenR, lenT, Bool.and_eq_true, decide_eq_true_eq] at hl
 rw [nf_59]
 simp [pTo_eq, pToR_eq, pEq_eq, pEqR_eq, pSz_eq, pSzR_eq, shR, shT, lenR, lenT, noRo_sOwn, cpR, cpT, hl]




theorem b_toOp {ts : List T} (hr : ts.all roT = true) (h : pToR kOp ts = true) : body lp0 ET8 52 [.ag ts] [] = some (.ret ⟨[.ag (cpR ts)], [], []⟩) := by
 rw [pToR_eq, Bool.and_eq_true] at h
 obtain ⟨hs, hl⟩ := h
 obtain ⟨a0, a1, a2, a3, rfl, ga3⟩ := rowr_Op hs hr
 simp only [lenR, lenT, Bool.and_eq_true, decide_eq_true_eq] at hl
 rw [nf_52]
 simp [pTo_eq, pToR_eq, pEq_eq, pEqR_eq, pSz_eq, pSzR_eq, shR, shT, lenR, lenT, noRo_sOwn, cpR, cpT, ga3, hl]







theorem b_eqFrame {xs ys : List T} (hr : xs.all roT = true) (hr' : ys.all roT = true) (h : pEqR kFrame xs = true) (h' : pEqR kFrame ys = true) : body lp0 ET13 55 [.ag xs, .ag ys] [] = some (.ret (oB (sEqR xs ys))) := by
 rw [pEqR_eq, Bool.and_eq_true] at h h'
 obtain ⟨hs, hl⟩ := h
 obtain ⟨hs', hl'⟩ := h'
 obtain ⟨a0, a1, a2, a3, rfl, _⟩ := rowr_Frame hs hr
 obtain ⟨b0, b1, b2, b3, rfl, _⟩ := rowr_Frame hs' hr'
 simp only [lenR, lenT, Bool.and_eq_true, decide_eq_true_eq] at hl hl'
 rw [nf_55]
 simp only [pEq_eq, pEqR_eq, shR, shT, lenR, lenT, hl, hl', decide_true, Bool.and_true, Bool.true_and, cond_true, List.length_cons, List.length_nil, Nat.reduceAdd, Nat.zero_add, eqChain]
 simp only [show some (LRes.ret (oB true)) = some (.ret (oB (true && true))) from rfl, eqChain, sEqR_ti, sEqR_tb, sEqR_ts, sEqR_nil, Bool.and_true, Bool.and_assoc]


theorem b_eqAgg {xs ys : List T} (hr : xs.all roT = true) (hr' : ys.all roT = true) (h : pEqR kAggT xs = true) (h' : pEqR kAggT ys = true) : body lp0 ET17 61 [.ag xs, .ag ys] [] = some (.ret (oB (sEqR xs ys))) := by
 rw [pEqR_eq, Bool.and_eq_true] at h h'
 obtain ⟨hs, hl⟩ := h
 obtain ⟨hs', hl'⟩ := h'
 obtain ⟨a0, a1, a2, a3, a4, a5, rfl, _⟩ := rowr_Agg hs hr
 obtain ⟨b0, b1, b2, b3, b4, b5, rfl, _⟩ := rowr_Agg hs' hr'
 simp only [lenR, lenT, Bool.and_eq_true, decide_eq_true_eq] at hl hl'
 rw [nf_61]
 simp only [pEq_eq, pEqR_eq, shR, shT, lenR, lenT, hl, hl', decide_true, Bool.and_true, Bool.true_and, cond_true, List.length_cons, List.length_nil, Nat.reduceAdd, Nat.zero_add, eqChain]
 simp only [show some (LRes.ret (oB true)) = some (.ret (oB (true && true))) from rfl, eqChain, sEqR_ti, sEqR_tb, sEqR_ts, sEqR_nil, Bool.and_true, Bool.and_assoc]




theorem b_eqOp {xs ys : List T} (hr : xs.all roT = true) (hr' : ys.all roT = true) (h : pEqR kOp xs = true) (h' : pEqR kOp ys = true) : body lp0 ET15 56 [.ag xs, .ag ys] [] = some (.ret (oB (sEqR xs ys))) := by
 rw [pEqR_eq, Bool.and_eq_true] at h h'
 obtain ⟨hs, hl⟩ := h
 obtain ⟨hs', hl'⟩ := h'
 obtain ⟨a0, a1, a2, a3, rfl, ga3⟩ := rowr_Op hs hr
 obtain ⟨b0, b1, b2, b3, rfl, gb3⟩ := rowr_Op hs' hr'
 simp only [lenR, lenT, Bool.and_eq_true, decide_eq_true_eq] at hl hl'
 rw [nf_56]
 simp only [pEq_eq, pEqR_eq, shR, shT, lenR, lenT, hl, hl', ga3, gb3, decide_true, Bool.and_true, Bool.true_and, cond_true, List.length_cons, List.length_nil, Nat.reduceAdd, Nat.zero_add, eqChain]
 simp only [show some (LRes.ret (oB true)) = some (.ret (oB (true && true))) from rfl, eqChain, sEqR_ti, sEqR_tb, sEqR_ts, sEqR_nil, Bool.and_true, Bool.and_assoc]


theorem b_toByteS {rs : List (List T)} (h : pTo [kB] rs = true) : body lp0 ET5 107 [.c (.sl .ro 1 rs)] [] = some (.ret ⟨[.c (.sl .own 1 (sOwn rs))], [], []⟩) := by
 rw [nf_107]
 have h' := h
 rw [pTo_eq] at h'
 simp only [Bool.and_eq_true, decide_eq_true_eq] at h'
 obtain ⟨⟨hs, hl⟩, hn⟩ := h'
 refine to_loop h rfl (fun i out hi ho => ?_) (fun out => ?_)
 ·obtain ⟨a0, hr, _⟩ := row_Byte (shRs_get hs hi)
  have hl2 := lenRs_get hl hi
  rw [hr] at hl2
  simp only [lenR, lenT, Bool.and_eq_true, decide_eq_true_eq] at hl2
  have hk : sOkC [.int .u8] rs (i : Int).toNat 0 = true := okc_sh' hs hi
  have hca0 : sCell rs (i : Int).toNat 0 = .im (.int .u8 a0) := by rw [cell_at' hi, hr]; rfl
  simp only [tAt0, tAt1, tAt2, iT_im, bT_im, rT_sl, okT_i, okT_b, okT_s, slT_sl, le_0, Bool.and_true, Bool.true_and, cond_true, cond_false, lt_len hi, hk, hca0, noRo_ownS, sOwn_eq, add1i (Nat.lt_of_lt_of_le hi (Nat.le_trans hn (by decide))), hr, ownR, ownT]
 ·simp only [tAt0, tAt1, tAt2, iT_im, bT_im, rT_sl, okT_i, okT_b, okT_s, slT_sl, le_0, Bool.and_true, Bool.true_and, cond_true, cond_false, lt_len']
theorem b_eqByteS {rs ss : List (List T)} (h : pEq [kB] rs = true) (h' : pEq [kB] ss = true) : body lp0 ET12 109 [.c (.sl .ro 1 rs), .c (.sl .ro 1 ss)] [] = some (.ret (oB (sEqS rs ss))) := by
 rw [nf_109]
 rw [pEq_eq] at h h'
 simp only [Bool.and_eq_true, decide_eq_true_eq] at h h'
 obtain ⟨⟨hs, hl⟩, hn⟩ := h
 obtain ⟨⟨hs', hl'⟩, hn'⟩ := h'
 refine eq_loop (fun i hi hi' => ?_) ?_
 ·obtain ⟨a0, hr, _⟩ := row_Byte (shRs_get hs hi)
  obtain ⟨b0, hr', _⟩ := row_Byte (shRs_get hs' hi')
  have hl2 := lenRs_get hl hi
  rw [hr] at hl2
  have hl2' := lenRs_get hl' hi'
  rw [hr'] at hl2'
  simp only [lenR, lenT, Bool.and_eq_true, decide_eq_true_eq] at hl2 hl2'
  have hk : sOkC [.int .u8] rs (i : Int).toNat 0 = true := okc_sh' hs hi
  have hk' : sOkC [.int .u8] ss (i : Int).toNat 0 = true := okc_sh' hs' hi'
  have hca0 : sCell rs (i : Int).toNat 0 = .im (.int .u8 a0) := by rw [cell_at' hi, hr]; rfl
  have hcb0 : sCell ss (i : Int).toNat 0 = .im (.int .u8 b0) := by rw [cell_at' hi', hr']; rfl
  have he : sEqR rs[i] ss[i] = sEq a0 b0 := by rw [hr, hr']; exact sEqR_int _ _ _
  rw [he]
  simp only [tAt0, tAt1, tAt2, iT_im, bT_im, rT_sl, okT_i, okT_b, okT_s, slT_sl, le_0, Bool.and_true, Bool.true_and, cond_true, cond_false, lt_len hi, lt_len hi', hk, hk', hca0, hcb0, add1i (Nat.lt_of_lt_of_le hi hn)] <;> (cases sEq a0 b0 <;> rfl)
 ·simp only [tAt0, tAt1, tAt2, iT_im, bT_im, rT_sl, okT_i, okT_b, okT_s, slT_sl, le_0, Bool.and_true, Bool.true_and, cond_true, cond_false, lt_len']
theorem b_toAggS {rs : List (List T)} (h : pTo kAggT rs = true) : body lp0 ET11 21 [.c (.sl .ro 6 rs)] [] = some (.ret ⟨[.c (.sl .own 6 (sOwn rs))], [], []⟩) := by
 rw [nf_21]
 have h' := h
 rw [pTo_eq] at h'
 simp only [Bool.and_eq_true, decide_eq_true_eq] at h'
 obtain ⟨⟨hs, hl⟩, hn⟩ := h'
 refine to_loop h rfl (fun i out hi ho => ?_) (fun out => ?_)
 ·obtain ⟨a0, a1, a2, a3, a4, a5, hr, _⟩ := row_Agg (shRs_get hs hi)
  have hl2 := lenRs_get hl hi
  rw [hr] at hl2
  simp only [lenR, lenT, Bool.and_eq_true, decide_eq_true_eq] at hl2
  have hk : sOkC [.int .i64, .int .i64, .int .i64, .int .i64, .int .i64, .int .i64] rs (i : Int).toNat 0 = true := okc_sh' hs hi
  have hca0 : sCell rs (i : Int).toNat 0 = tI a0 := by rw [cell_at' hi, hr]; rfl
  have hca1 : sCell rs (i : Int).toNat 1 = tI a1 := by rw [cell_at' hi, hr]; rfl
  have hca2 : sCell rs (i : Int).toNat 2 = tI a2 := by rw [cell_at' hi, hr]; rfl
  have hca3 : sCell rs (i : Int).toNat 3 = tI a3 := by rw [cell_at' hi, hr]; rfl
  have hca4 : sCell rs (i : Int).toNat 4 = tI a4 := by rw [cell_at' hi, hr]; rfl
  have hca5 : sCell rs (i : Int).toNat 5 = tI a5 := by rw [cell_at' hi, hr]; rfl
  have hp : pToR kAggT [tI a0, tI a1, tI a2, tI a3, tI a4, tI a5] = true := by rw [pToR_eq]; simp [shR, shT, lenR, lenT, hl2]
  simp only [tAt0, tAt1, tAt2, iT_im, bT_im, rT_sl, okT_i, okT_b, okT_s, slT_sl, le_0, Bool.and_true, Bool.true_and, cond_true, cond_false, lt_len hi, hk, hca0, hca1, hca2, hca3, hca4, hca5, hp, noRo_ownS, sOwn_eq, add1i (Nat.lt_of_lt_of_le hi (Nat.le_trans hn (by decide))), hr, ownR, ownT]
 ·simp only [tAt0, tAt1, tAt2, iT_im, bT_im, rT_sl, okT_i, okT_b, okT_s, slT_sl, le_0, Bool.and_true, Bool.true_and, cond_true, cond_false, lt_len']
theorem b_eqAggS {rs ss : List (List T)} (h : pEq kAggT rs = true) (h' : pEq kAggT ss = true) : body lp0 ET18 23 [.c (.sl .ro 6 rs), .c (.sl .ro 6 ss)] [] = some (.ret (oB (sEqS rs ss))) := by
 rw [nf_23]
 rw [pEq_eq] at h h'
 simp only [Bool.and_eq_true, decide_eq_true_eq] at h h'
 obtain ⟨⟨hs, hl⟩, hn⟩ := h
 obtain ⟨⟨hs', hl'⟩, hn'⟩ := h'
 refine eq_loop (fun i hi hi' => ?_) ?_
 ·obtain ⟨a0, a1, a2, a3, a4, a5, hr, _⟩ := row_Agg (shRs_get hs hi)
  obtain ⟨b0, b1, b2, b3, b4, b5, hr', _⟩ := row_Agg (shRs_get hs' hi')
  have hl2 := lenRs_get hl hi
  rw [hr] at hl2
  have hl2' := lenRs_get hl' hi'
  rw [hr'] at hl2'
  simp only [lenR, lenT, Bool.and_eq_true, decide_eq_true_eq] at hl2 hl2'
  have hk : sOkC [.int .i64, .int .i64, .int .i64, .int .i64, .int .i64, .int .i64] rs (i : Int).toNat 0 = true := okc_sh' hs hi
  have hk' : sOkC [.int .i64, .int .i64, .int .i64, .int .i64, .int .i64, .int .i64] ss (i : Int).toNat 0 = true := okc_sh' hs' hi'
  have hca0 : sCell rs (i : Int).toNat 0 = tI a0 := by rw [cell_at' hi, hr]; rfl
  have hca1 : sCell rs (i : Int).toNat 1 = tI a1 := by rw [cell_at' hi, hr]; rfl
  have hca2 : sCell rs (i : Int).toNat 2 = tI a2 := by rw [cell_at' hi, hr]; rfl
  have hca3 : sCell rs (i : Int).toNat 3 = tI a3 := by rw [cell_at' hi, hr]; rfl
  have hca4 : sCell rs (i : Int).toNat 4 = tI a4 := by rw [cell_at' hi, hr]; rfl
  have hca5 : sCell rs (i : Int).toNat 5 = tI a5 := by rw [cell_at' hi, hr]; rfl
  have hcb0 : sCell ss (i : Int).toNat 0 = tI b0 := by rw [cell_at' hi', hr']; rfl
  have hcb1 : sCell ss (i : Int).toNat 1 = tI b1 := by rw [cell_at' hi', hr']; rfl
  have hcb2 : sCell ss (i : Int).toNat 2 = tI b2 := by rw [cell_at' hi', hr']; rfl
  have hcb3 : sCell ss (i : Int).toNat 3 = tI b3 := by rw [cell_at' hi', hr']; rfl
  have hcb4 : sCell ss (i : Int).toNat 4 = tI b4 := by rw [cell_at' hi', hr']; rfl
  have hcb5 : sCell ss (i : Int).toNat 5 = tI b5 := by rw [cell_at' hi', hr']; rfl
  have hp : pEqR kAggT [tI a0, tI a1, tI a2, tI a3, tI a4, tI a5] = true := by rw [pEqR_eq]; simp [shR, shT, lenR, lenT, hl2]
  have hp' : pEqR kAggT [tI b0, tI b1, tI b2, tI b3, tI b4, tI b5] = true := by rw [pEqR_eq]; simp [shR, shT, lenR, lenT, hl2']
  have he : sEqR rs[i] ss[i] = sEqR [tI a0, tI a1, tI a2, tI a3, tI a4, tI a5] [tI b0, tI b1, tI b2, tI b3, tI b4, tI b5] := by rw [hr, hr']
  rw [he]
  simp only [tAt0, tAt1, tAt2, iT_im, bT_im, rT_sl, okT_i, okT_b, okT_s, slT_sl, le_0, Bool.and_true, Bool.true_and, cond_true, cond_false, lt_len hi, lt_len hi', hk, hk', hca0, hca1, hca2, hca3, hca4, hca5, hcb0, hcb1, hcb2, hcb3, hcb4, hcb5, hp, hp', add1i (Nat.lt_of_lt_of_le hi hn)] <;> (cases sEqR [tI a0, tI a1, tI a2, tI a3, tI a4, tI a5] [tI b0, tI b1, tI b2, tI b3, tI b4, tI b5] <;> rfl)
 ·simp only [tAt0, tAt1, tAt2, iT_im, bT_im, rT_sl, okT_i, okT_b, okT_s, slT_sl, le_0, Bool.and_true, Bool.true_and, cond_true, cond_false, lt_len']
theorem b_toFrameS {rs : List (List T)} (h : pTo kFrame rs = true) : body lp0 ET7 32 [.c (.sl .ro 4 rs)] [] = some (.ret ⟨[.c (.sl .own 4 (sOwn rs))], [], []⟩) := by
 rw [nf_32]
 have h' := h
 rw [pTo_eq] at h'
 simp only [Bool.and_eq_true, decide_eq_true_eq] at h'
 obtain ⟨⟨hs, hl⟩, hn⟩ := h'
 refine to_loop h rfl (fun i out hi ho => ?_) (fun out => ?_)
 ·obtain ⟨a0, a1, a2, a3, hr, _⟩ := row_Frame (shRs_get hs hi)
  have hl2 := lenRs_get hl hi
  rw [hr] at hl2
  simp only [lenR, lenT, Bool.and_eq_true, decide_eq_true_eq] at hl2
  have hk : sOkC [.int .i64, .int .i64, .int .i64, .int .i64] rs (i : Int).toNat 0 = true := okc_sh' hs hi
  have hca0 : sCell rs (i : Int).toNat 0 = tI a0 := by rw [cell_at' hi, hr]; rfl
  have hca1 : sCell rs (i : Int).toNat 1 = tI a1 := by rw [cell_at' hi, hr]; rfl
  have hca2 : sCell rs (i : Int).toNat 2 = tI a2 := by rw [cell_at' hi, hr]; rfl
  have hca3 : sCell rs (i : Int).toNat 3 = tI a3 := by rw [cell_at' hi, hr]; rfl
  have hp : pToR kFrame [tI a0, tI a1, tI a2, tI a3] = true := by rw [pToR_eq]; simp [shR, shT, lenR, lenT, hl2]
  simp only [tAt0, tAt1, tAt2, iT_im, bT_im, rT_sl, okT_i, okT_b, okT_s, slT_sl, le_0, Bool.and_true, Bool.true_and, cond_true, cond_false, lt_len hi, hk, hca0, hca1, hca2, hca3, hp, noRo_ownS, sOwn_eq, add1i (Nat.lt_of_lt_of_le hi (Nat.le_trans hn (by decide))), hr, ownR, ownT]
 ·simp only [tAt0, tAt1, tAt2, iT_im, bT_im, rT_sl, okT_i, okT_b, okT_s, slT_sl, le_0, Bool.and_true, Bool.true_and, cond_true, cond_false, lt_len']
theorem b_eqFrameS {rs ss : List (List T)} (h : pEq kFrame rs = true) (h' : pEq kFrame ss = true) : body lp0 ET14 14 [.c (.sl .ro 4 rs), .c (.sl .ro 4 ss)] [] = some (.ret (oB (sEqS rs ss))) := by
 rw [nf_14]
 rw [pEq_eq] at h h'
 simp only [Bool.and_eq_true, decide_eq_true_eq] at h h'
 obtain ⟨⟨hs, hl⟩, hn⟩ := h
 obtain ⟨⟨hs', hl'⟩, hn'⟩ := h'
 refine eq_loop (fun i hi hi' => ?_) ?_
 ·obtain ⟨a0, a1, a2, a3, hr, _⟩ := row_Frame (shRs_get hs hi)
  obtain ⟨b0, b1, b2, b3, hr', _⟩ := row_Frame (shRs_get hs' hi')
  have hl2 := lenRs_get hl hi
  rw [hr] at hl2
  have hl2' := lenRs_get hl' hi'
  rw [hr'] at hl2'
  simp only [lenR, lenT, Bool.and_eq_true, decide_eq_true_eq] at hl2 hl2'
  have hk : sOkC [.int .i64, .int .i64, .int .i64, .int .i64] rs (i : Int).toNat 0 = true := okc_sh' hs hi
  have hk' : sOkC [.int .i64, .int .i64, .int .i64, .int .i64] ss (i : Int).toNat 0 = true := okc_sh' hs' hi'
  have hca0 : sCell rs (i : Int).toNat 0 = tI a0 := by rw [cell_at' hi, hr]; rfl
  have hca1 : sCell rs (i : Int).toNat 1 = tI a1 := by rw [cell_at' hi, hr]; rfl
  have hca2 : sCell rs (i : Int).toNat 2 = tI a2 := by rw [cell_at' hi, hr]; rfl
  have hca3 : sCell rs (i : Int).toNat 3 = tI a3 := by rw [cell_at' hi, hr]; rfl
  have hcb0 : sCell ss (i : Int).toNat 0 = tI b0 := by rw [cell_at' hi', hr']; rfl
  have hcb1 : sCell ss (i : Int).toNat 1 = tI b1 := by rw [cell_at' hi', hr']; rfl
  have hcb2 : sCell ss (i : Int).toNat 2 = tI b2 := by rw [cell_at' hi', hr']; rfl
  have hcb3 : sCell ss (i : Int).toNat 3 = tI b3 := by rw [cell_at' hi', hr']; rfl
  have hp : pEqR kFrame [tI a0, tI a1, tI a2, tI a3] = true := by rw [pEqR_eq]; simp [shR, shT, lenR, lenT, hl2]
  have hp' : pEqR kFrame [tI b0, tI b1, tI b2, tI b3] = true := by rw [pEqR_eq]; simp [shR, shT, lenR, lenT, hl2']
  have he : sEqR rs[i] ss[i] = sEqR [tI a0, tI a1, tI a2, tI a3] [tI b0, tI b1, tI b2, tI b3] := by rw [hr, hr']
  rw [he]
  simp only [tAt0, tAt1, tAt2, iT_im, bT_im, rT_sl, okT_i, okT_b, okT_s, slT_sl, le_0, Bool.and_true, Bool.true_and, cond_true, cond_false, lt_len hi, lt_len hi', hk, hk', hca0, hca1, hca2, hca3, hcb0, hcb1, hcb2, hcb3, hp, hp', add1i (Nat.lt_of_lt_of_le hi hn)] <;> (cases sEqR [tI a0, tI a1, tI a2, tI a3] [tI b0, tI b1, tI b2, tI b3] <;> rfl)
 ·simp only [tAt0, tAt1, tAt2, iT_im, bT_im, rT_sl, okT_i, okT_b, okT_s, slT_sl, le_0, Bool.and_true, Bool.true_and, cond_true, cond_false, lt_len']
theorem b_toOpS {rs : List (List T)} (h : pTo kOp rs = true) : body lp0 ET9 12 [.c (.sl .ro 4 rs)] [] = some (.ret ⟨[.c (.sl .own 4 (sOwn rs))], [], []⟩) := by
 rw [nf_12]
 have h' := h
 rw [pTo_eq] at h'
 simp only [Bool.and_eq_true, decide_eq_true_eq] at h'
 obtain ⟨⟨hs, hl⟩, hn⟩ := h'
 refine to_loop h rfl (fun i out hi ho => ?_) (fun out => ?_)
 ·obtain ⟨a0, a1, a2, fa3, a3, hr, ga3⟩ := row_Op (shRs_get hs hi)
  have hl2 := lenRs_get hl hi
  rw [hr] at hl2
  simp only [lenR, lenT, Bool.and_eq_true, decide_eq_true_eq] at hl2
  have hk : sOkC [.int .i64, .int .i64, .int .i64, .sl 1] rs (i : Int).toNat 0 = true := okc_sh' hs hi
  have hca0 : sCell rs (i : Int).toNat 0 = tI a0 := by rw [cell_at' hi, hr]; rfl
  have hca1 : sCell rs (i : Int).toNat 1 = tI a1 := by rw [cell_at' hi, hr]; rfl
  have hca2 : sCell rs (i : Int).toNat 2 = tI a2 := by rw [cell_at' hi, hr]; rfl
  have hca3 : sCell rs (i : Int).toNat 3 = .sl fa3 1 a3 := by rw [cell_at' hi, hr]; rfl
  have hp : pToR kOp [tI a0, tI a1, tI a2, .sl .ro 1 a3] = true := by rw [pToR_eq]; simp [shR, shT, lenR, lenT, hl2, ga3]
  simp only [tAt0, tAt1, tAt2, iT_im, bT_im, rT_sl, okT_i, okT_b, okT_s, slT_sl, le_0, Bool.and_true, Bool.true_and, cond_true, cond_false, lt_len hi, hk, hca0, hca1, hca2, hca3, hp, noRo_ownS, sOwn_eq, add1i (Nat.lt_of_lt_of_le hi (Nat.le_trans hn (by decide))), hr, ownR, ownT]
 ·simp only [tAt0, tAt1, tAt2, iT_im, bT_im, rT_sl, okT_i, okT_b, okT_s, slT_sl, le_0, Bool.and_true, Bool.true_and, cond_true, cond_false, lt_len']
theorem b_eqOpS {rs ss : List (List T)} (h : pEq kOp rs = true) (h' : pEq kOp ss = true) : body lp0 ET16 15 [.c (.sl .ro 4 rs), .c (.sl .ro 4 ss)] [] = some (.ret (oB (sEqS rs ss))) := by
 rw [nf_15]
 rw [pEq_eq] at h h'
 simp only [Bool.and_eq_true, decide_eq_true_eq] at h h'
 obtain ⟨⟨hs, hl⟩, hn⟩ := h
 obtain ⟨⟨hs', hl'⟩, hn'⟩ := h'
 refine eq_loop (fun i hi hi' => ?_) ?_
 ·obtain ⟨a0, a1, a2, fa3, a3, hr, ga3⟩ := row_Op (shRs_get hs hi)
  obtain ⟨b0, b1, b2, fb3, b3, hr', gb3⟩ := row_Op (shRs_get hs' hi')
  have hl2 := lenRs_get hl hi
  rw [hr] at hl2
  have hl2' := lenRs_get hl' hi'
  rw [hr'] at hl2'
  simp only [lenR, lenT, Bool.and_eq_true, decide_eq_true_eq] at hl2 hl2'
  have hk : sOkC [.int .i64, .int .i64, .int .i64, .sl 1] rs (i : Int).toNat 0 = true := okc_sh' hs hi
  have hk' : sOkC [.int .i64, .int .i64, .int .i64, .sl 1] ss (i : Int).toNat 0 = true := okc_sh' hs' hi'
  have hca0 : sCell rs (i : Int).toNat 0 = tI a0 := by rw [cell_at' hi, hr]; rfl
  have hca1 : sCell rs (i : Int).toNat 1 = tI a1 := by rw [cell_at' hi, hr]; rfl
  have hca2 : sCell rs (i : Int).toNat 2 = tI a2 := by rw [cell_at' hi, hr]; rfl
  have hca3 : sCell rs (i : Int).toNat 3 = .sl fa3 1 a3 := by rw [cell_at' hi, hr]; rfl
  have hcb0 : sCell ss (i : Int).toNat 0 = tI b0 := by rw [cell_at' hi', hr']; rfl
  have hcb1 : sCell ss (i : Int).toNat 1 = tI b1 := by rw [cell_at' hi', hr']; rfl
  have hcb2 : sCell ss (i : Int).toNat 2 = tI b2 := by rw [cell_at' hi', hr']; rfl
  have hcb3 : sCell ss (i : Int).toNat 3 = .sl fb3 1 b3 := by rw [cell_at' hi', hr']; rfl
  have hp : pEqR kOp [tI a0, tI a1, tI a2, .sl .ro 1 a3] = true := by rw [pEqR_eq]; simp [shR, shT, lenR, lenT, hl2, ga3]
  have hp' : pEqR kOp [tI b0, tI b1, tI b2, .sl .ro 1 b3] = true := by rw [pEqR_eq]; simp [shR, shT, lenR, lenT, hl2', gb3]
  have he : sEqR rs[i] ss[i] = sEqR [tI a0, tI a1, tI a2, .sl .ro 1 a3] [tI b0, tI b1, tI b2, .sl .ro 1 b3] := by rw [hr, hr']; exact sEqR_ro (by simp [ownR, ownT]) (by simp [ownR, ownT])
  rw [he]
  simp only [tAt0, tAt1, tAt2, iT_im, bT_im, rT_sl, okT_i, okT_b, okT_s, slT_sl, le_0, Bool.and_true, Bool.true_and, cond_true, cond_false, lt_len hi, lt_len hi', hk, hk', hca0, hca1, hca2, hca3, hcb0, hcb1, hcb2, hcb3, hp, hp', add1i (Nat.lt_of_lt_of_le hi hn)] <;> (cases sEqR [tI a0, tI a1, tI a2, .sl .ro 1 a3] [tI b0, tI b1, tI b2, .sl .ro 1 b3] <;> rfl)
 ·simp only [tAt0, tAt1, tAt2, iT_im, bT_im, rT_sl, okT_i, okT_b, okT_s, slT_sl, le_0, Bool.and_true, Bool.true_and, cond_true, cond_false, lt_len']
theorem b_szByteS {rs : List (List T)} {n : Int} (h : pSz [kB] rs n = true) : body lp0 ET0 104 [.c (.sl .ro 1 rs), aI n] [] = some (.ret (oI (sSz rs n))) := by
 rw [nf_104]
 exact sz_flat rfl h
theorem b_szAggS {rs : List (List T)} {n : Int} (h : pSz kAggT rs n = true) : body lp0 ET4 19 [.c (.sl .ro 6 rs), aI n] [] = some (.ret (oI (sSz rs n))) := by
 rw [nf_19]
 exact sz_flat rfl h
theorem b_szFrameS {rs : List (List T)} {n : Int} (h : pSz kFrame rs n = true) : body lp0 ET1 30 [.c (.sl .ro 4 rs), aI n] [] = some (.ret (oI (sSz rs n))) := by
 rw [nf_30]
 exact sz_flat rfl h
theorem b_szOpS {rs : List (List T)} {n : Int} (h : pSz kOp rs n = true) : body lp0 ET3 10 [.c (.sl .ro 4 rs), aI n] [] = some (.ret (oI (sSz rs n))) := by
 rw [nf_10]
 have h' := h
 rw [pSz_eq] at h'
 simp only [Bool.and_eq_true, decide_eq_true_eq] at h'
 obtain ⟨⟨⟨⟨hs, hl⟩, hn⟩, _⟩, _⟩ := h'
 refine sz_loop h (fun i m hi h0 h1 => ?_) (fun m => ?_)
 ·obtain ⟨a0, a1, a2, fa3, a3, hr, ga3⟩ := row_Op (shRs_get hs hi)
  have hl2 := lenRs_get hl hi
  rw [hr] at hl2
  simp only [lenR, lenT, Bool.and_eq_true, decide_eq_true_eq] at hl2
  have hk : sOkC [.int .i64, .int .i64, .int .i64, .sl 1] rs (i : Int).toNat 0 = true := okc_sh' hs hi
  have hca0 : sCell rs (i : Int).toNat 0 = tI a0 := by rw [cell_at' hi, hr]; rfl
  have hca1 : sCell rs (i : Int).toNat 1 = tI a1 := by rw [cell_at' hi, hr]; rfl
  have hca2 : sCell rs (i : Int).toNat 2 = tI a2 := by rw [cell_at' hi, hr]; rfl
  have hca3 : sCell rs (i : Int).toNat 3 = .sl fa3 1 a3 := by rw [cell_at' hi, hr]; rfl
  have hp : pSzR kOp [tI a0, tI a1, tI a2, .sl .ro 1 a3] m = true := by rw [pSzR_eq]; simp [shR, shT, lenR, lenT, hl2, h0, h1, ga3]
  have he : sSzR [tI a0, tI a1, tI a2, .sl .ro 1 a3] m = szR rs[i] m := by rw [sSzR_eq, hr, szR_im h0, szR_im h0, szR_im h0, szR_im h0, szR_im h0, szR_im h0]; exact szR_fl _ _ _ _ _ _ _
  simp only [tAt0, tAt1, tAt2, iT_im, bT_im, rT_sl, okT_i, okT_b, okT_s, slT_sl, le_0, Bool.and_true, Bool.true_and, cond_true, cond_false, lt_len hi, hk, hca0, hca1, hca2, hca3, hp, he, sLt_eq, add1i (Nat.lt_of_lt_of_le hi hn)]
  by_cases hc : szR rs[i] m < 0
  ·rw [decide_eq_true hc, if_pos hc]; rfl
  ·rw [decide_eq_false hc, if_neg hc]; rfl
 ·simp only [tAt0, tAt1, tAt2, iT_im, bT_im, rT_sl, okT_i, okT_b, okT_s, slT_sl, le_0, Bool.and_true, Bool.true_and, cond_true, cond_false, lt_len']
theorem b_szOp {ts : List T} {n : Int} (hr : ts.all roT = true) (h : pSzR kOp ts n = true) : body lp0 ET2 49 [.ag ts, aI n] [] = some (.ret (oI (sSzR ts n))) := by
 rw [pSzR_eq] at h
 simp only [Bool.and_eq_true, decide_eq_true_eq] at h
 obtain ⟨⟨⟨hs, hl⟩, h0⟩, h1⟩ := h
 obtain ⟨a0, a1, a2, a3, rfl, ga3⟩ := rowr_Op hs hr
 simp only [lenR, lenT, Bool.and_eq_true, decide_eq_true_eq] at hl
 rw [nf_49]
 rw [sSzR_eq, szR_im h0, szR_im h0, szR_im h0]
 refine sz_step ga3 (by simpa using hl) h0 h1 (fun h2 h3 => ?_)
 rw [szR_nil]
theorem good0 : Good Go.Proofs.Try.prog md0 (fun _ => .own) TL0 := .nil
theorem good1 : Good Go.Proofs.Try.prog md0 (fun _ => .own) TL1 := good_szS (fun h => b_szByteS h) good0
theorem good2 : Good Go.Proofs.Try.prog md0 (fun _ => .own) TL2 := good_szS (fun h => b_szFrameS h) good1
theorem good3 : Good Go.Proofs.Try.prog md0 (fun _ => .own) TL3 := good_szR (fun h h1 => b_szOp h h1) good2
theorem good4 : Good Go.Proofs.Try.prog md0 (fun _ => .own) TL4 := good_szS (fun h => b_szOpS h) good3
theorem good5 : Good Go.Proofs.Try.prog md0 (fun _ => .own) TL5 := good_szS (fun h => b_szAggS h) good4
theorem good6 : Good Go.Proofs.Try.prog md0 (fun _ => .own) TL6 := good_toS (fun h => b_toByteS h) good5
theorem good7 : Good Go.Proofs.Try.prog md0 (fun _ => .own) TL7 := good_toR (fun h h1 => b_toFrame h h1) good6
theorem good8 : Good Go.Proofs.Try.prog md0 (fun _ => .own) TL8 := good_toS (fun h => b_toFrameS h) good7
theorem good9 : Good Go.Proofs.Try.prog md0 (fun _ => .own) TL9 := good_toR (fun h h1 => b_toOp h h1) good8
theorem good10 : Good Go.Proofs.Try.prog md0 (fun _ => .own) TL10 := good_toS (fun h => b_toOpS h) good9
theorem good11 : Good Go.Proofs.Try.prog md0 (fun _ => .own) TL11 := good_toR (fun h h1 => b_toAgg h h1) good10
theorem good12 : Good Go.Proofs.Try.prog md0 (fun _ => .own) TL12 := good_toS (fun h => b_toAggS h) good11
theorem good13 : Good Go.Proofs.Try.prog md0 (fun _ => .own) TL13 := good_eqS (fun h h1 => b_eqByteS h h1) good12
theorem good14 : Good Go.Proofs.Try.prog md0 (fun _ => .own) TL14 := good_eqR (fun h h1 h2 h3 => b_eqFrame h h1 h2 h3) good13
theorem good15 : Good Go.Proofs.Try.prog md0 (fun _ => .own) TL15 := good_eqS (fun h h1 => b_eqFrameS h h1) good14
theorem good16 : Good Go.Proofs.Try.prog md0 (fun _ => .own) TL16 := good_eqR (fun h h1 h2 h3 => b_eqOp h h1 h2 h3) good15
theorem good17 : Good Go.Proofs.Try.prog md0 (fun _ => .own) TL17 := good_eqS (fun h h1 => b_eqOpS h h1) good16
theorem good18 : Good Go.Proofs.Try.prog md0 (fun _ => .own) TL18 := good_eqR (fun h h1 h2 h3 => b_eqAgg h h1 h2 h3) good17
theorem good19 : Good Go.Proofs.Try.prog md0 (fun _ => .own) TL19 := good_eqS (fun h h1 => b_eqAggS h h1) good18

end Go.Vm
