/- the data helpers, each -/
import Derived.Test.YtlfkhhmpkgehbaaDoorEngN
import Derived.Test.YtlfkhhmpkgehbaaDoorDa2
namespace Go.Vm
set_option linter.unusedVariables false
set_option linter.unusedSimpArgs false

theorem row_Byte {r : List T} (h : shR [kB] r = true) : ∃ (a0 : Int), r = [.im (.int .u8 a0)] ∧ True := by
 obtain ⟨t0, r, rfl, h0, h⟩ := shR_cons h
 obtain rfl := shR_nil h
 obtain ⟨a0, rfl⟩ := shT_int h0
 exact ⟨a0, rfl, trivial⟩
theorem rowr_Byte {r : List T} (h : shR [kB] r = true) (hr : r.all roT = true) : ∃ (a0 : Int), r = [.im (.int .u8 a0)] ∧ True := row_Byte h
theorem row_Int {r : List T} (h : shR [kI] r = true) : ∃ (a0 : Int), r = [tI a0] ∧ True := by
 obtain ⟨t0, r, rfl, h0, h⟩ := shR_cons h
 obtain rfl := shR_nil h
 obtain ⟨a0, rfl⟩ := shT_int h0
 exact ⟨a0, rfl, trivial⟩
theorem rowr_Int {r : List T} (h : shR [kI] r = true) (hr : r.all roT = true) : ∃ (a0 : Int), r = [tI a0] ∧ True := row_Int h
theorem row_Agg {r : List T} (h : shR kAggT r = true) : ∃ (a0 : Int) (a1 : Int) (a2 : Int) (a3 : Int) (a4 : Int) (a5 : Int), r = [tI a0, tI a1, tI a2, tI a3, tI a4, tI a5] ∧ True := by
 obtain ⟨t0, r, rfl, h0, h⟩ := shR_cons h
 obtain ⟨t1, r, rfl, h1, h⟩ := shR_cons h
 obtain ⟨t2, r, rfl, h2, h⟩ := shR_cons h
 obtain ⟨t3, r, rfl, h3, h⟩ := shR_cons h
 obtain ⟨t4, r, rfl, h4, h⟩ := shR_cons h
 obtain ⟨t5, r, rfl, h5, h⟩ := shR_cons h
 obtain rfl := shR_nil h
 obtain ⟨a0, rfl⟩ := shT_int h0
 obtain ⟨a1, rfl⟩ := shT_int h1
 obtain ⟨a2, rfl⟩ := shT_int h2
 obtain ⟨a3, rfl⟩ := shT_int h3
 obtain ⟨a4, rfl⟩ := shT_int h4
 obtain ⟨a5, rfl⟩ := shT_int h5
 exact ⟨a0, a1, a2, a3, a4, a5, rfl, trivial⟩
theorem rowr_Agg {r : List T} (h : shR kAggT r = true) (hr : r.all roT = true) : ∃ (a0 : Int) (a1 : Int) (a2 : Int) (a3 : Int) (a4 : Int) (a5 : Int), r = [tI a0, tI a1, tI a2, tI a3, tI a4, tI a5] ∧ True := row_Agg h
theorem row_Frame {r : List T} (h : shR kFrame r = true) : ∃ (a0 : Int) (a1 : Int) (a2 : Int) (a3 : Int), r = [tI a0, tI a1, tI a2, tI a3] ∧ True := by
 obtain ⟨t0, r, rfl, h0, h⟩ := shR_cons h
 obtain ⟨t1, r, rfl, h1, h⟩ := shR_cons h
 obtain ⟨t2, r, rfl, h2, h⟩ := shR_cons h
 obtain ⟨t3, r, rfl, h3, h⟩ := shR_cons h
 obtain rfl := shR_nil h
 obtain ⟨a0, rfl⟩ := shT_int h0
 obtain ⟨a1, rfl⟩ := shT_int h1
 obtain ⟨a2, rfl⟩ := shT_int h2
 obtain ⟨a3, rfl⟩ := shT_int h3
 exact ⟨a0, a1, a2, a3, rfl, trivial⟩
theorem rowr_Frame {r : List T} (h : shR kFrame r = true) (hr : r.all roT = true) : ∃ (a0 : Int) (a1 : Int) (a2 : Int) (a3 : Int), r = [tI a0, tI a1, tI a2, tI a3] ∧ True := row_Frame h
theorem row_Msg {r : List T} (h : shR kMsg r = true) : ∃ (a0 : Int) (a1 : Int) (a2 : Int) (a3 : Int) (a4 : Int), r = [tI a0, tI a1, tI a2, tI a3, tI a4] ∧ True := by
 obtain ⟨t0, r, rfl, h0, h⟩ := shR_cons h
 obtain ⟨t1, r, rfl, h1, h⟩ := shR_cons h
 obtain ⟨t2, r, rfl, h2, h⟩ := shR_cons h
 obtain ⟨t3, r, rfl, h3, h⟩ := shR_cons h
 obtain ⟨t4, r, rfl, h4, h⟩ := shR_cons h
 obtain rfl := shR_nil h
 obtain ⟨a0, rfl⟩ := shT_int h0
 obtain ⟨a1, rfl⟩ := shT_int h1
 obtain ⟨a2, rfl⟩ := shT_int h2
 obtain ⟨a3, rfl⟩ := shT_int h3
 obtain ⟨a4, rfl⟩ := shT_int h4
 exact ⟨a0, a1, a2, a3, a4, rfl, trivial⟩
theorem rowr_Msg {r : List T} (h : shR kMsg r = true) (hr : r.all roT = true) : ∃ (a0 : Int) (a1 : Int) (a2 : Int) (a3 : Int) (a4 : Int), r = [tI a0, tI a1, tI a2, tI a3, tI a4] ∧ True := row_Msg h
theorem row_MsgS {r : List T} (h : shR [.sl kMsg] r = true) : ∃ (fa0 : Fl) (a0 : List (List T)), r = [.sl fa0 5 a0] ∧ shRs kMsg a0 = true := by
 obtain ⟨t0, r, rfl, h0, h⟩ := shR_cons h
 obtain rfl := shR_nil h
 obtain ⟨fa0, a0, rfl, ga0⟩ := shT_sl h0
 exact ⟨fa0, a0, rfl, ga0⟩
theorem rowr_MsgS {r : List T} (h : shR [.sl kMsg] r = true) (hr : r.all roT = true) : ∃ (a0 : List (List T)), r = [.sl .ro 5 a0] ∧ shRs kMsg a0 = true := by
 obtain ⟨fa0, a0, rfl, ga0⟩ := row_MsgS h
 simp only [List.all_cons, List.all_nil, Bool.and_eq_true] at hr
 obtain rfl : fa0 = .ro := by
  have hh : roT (.sl fa0 5 a0) = true := by simp_all
  cases fa0 <;> first | rfl | cases hh
 exact ⟨a0, rfl, ga0⟩
theorem row_Decoder {r : List T} (h : shR kDecoder r = true) : ∃ (fa0 : Fl) (a0 : List (List T)) (a1 : Bool), r = [.sl fa0 1 a0, tB a1] ∧ shRs [kB] a0 = true := by
 obtain ⟨t0, r, rfl, h0, h⟩ := shR_cons h
 obtain ⟨t1, r, rfl, h1, h⟩ := shR_cons h
 obtain rfl := shR_nil h
 obtain ⟨fa0, a0, rfl, ga0⟩ := shT_sl h0
 obtain ⟨a1, rfl⟩ := shT_bool h1
 exact ⟨fa0, a0, a1, rfl, ga0⟩
theorem rowr_Decoder {r : List T} (h : shR kDecoder r = true) (hr : r.all roT = true) : ∃ (a0 : List (List T)) (a1 : Bool), r = [.sl .ro 1 a0, tB a1] ∧ shRs [kB] a0 = true := by
 obtain ⟨fa0, a0, a1, rfl, ga0⟩ := row_Decoder h
 simp only [List.all_cons, List.all_nil, Bool.and_eq_true] at hr
 obtain rfl : fa0 = .ro := by
  have hh : roT (.sl fa0 1 a0) = true := by simp_all
  cases fa0 <;> first | rfl | cases hh
 exact ⟨a0, a1, rfl, ga0⟩
theorem row_Source {r : List T} (h : shR kSource r = true) : ∃ (a0 : Int) (a1 : Int) (a2 : Int) (a3 : Bool) (a4 : Bool), r = [tI a0, tI a1, tI a2, tB a3, tB a4] ∧ True := by
 obtain ⟨t0, r, rfl, h0, h⟩ := shR_cons h
 obtain ⟨t1, r, rfl, h1, h⟩ := shR_cons h
 obtain ⟨t2, r, rfl, h2, h⟩ := shR_cons h
 obtain ⟨t3, r, rfl, h3, h⟩ := shR_cons h
 obtain ⟨t4, r, rfl, h4, h⟩ := shR_cons h
 obtain rfl := shR_nil h
 obtain ⟨a0, rfl⟩ := shT_int h0
 obtain ⟨a1, rfl⟩ := shT_int h1
 obtain ⟨a2, rfl⟩ := shT_int h2
 obtain ⟨a3, rfl⟩ := shT_bool h3
 obtain ⟨a4, rfl⟩ := shT_bool h4
 exact ⟨a0, a1, a2, a3, a4, rfl, trivial⟩
theorem rowr_Source {r : List T} (h : shR kSource r = true) (hr : r.all roT = true) : ∃ (a0 : Int) (a1 : Int) (a2 : Int) (a3 : Bool) (a4 : Bool), r = [tI a0, tI a1, tI a2, tB a3, tB a4] ∧ True := row_Source h
theorem row_Conn {r : List T} (h : shR kConn r = true) : ∃ (fa0 : Fl) (a0 : List (List T)) (a1 : Bool) (a2 : Int) (a3 : Int) (a4 : Int) (a5 : Bool) (a6 : Bool), r = [.sl fa0 1 a0, tB a1, tI a2, tI a3, tI a4, tB a5, tB a6] ∧ shRs [kB] a0 = true := by
 obtain ⟨t0, r, rfl, h0, h⟩ := shR_cons h
 obtain ⟨t1, r, rfl, h1, h⟩ := shR_cons h
 obtain ⟨t2, r, rfl, h2, h⟩ := shR_cons h
 obtain ⟨t3, r, rfl, h3, h⟩ := shR_cons h
 obtain ⟨t4, r, rfl, h4, h⟩ := shR_cons h
 obtain ⟨t5, r, rfl, h5, h⟩ := shR_cons h
 obtain ⟨t6, r, rfl, h6, h⟩ := shR_cons h
 obtain rfl := shR_nil h
 obtain ⟨fa0, a0, rfl, ga0⟩ := shT_sl h0
 obtain ⟨a1, rfl⟩ := shT_bool h1
 obtain ⟨a2, rfl⟩ := shT_int h2
 obtain ⟨a3, rfl⟩ := shT_int h3
 obtain ⟨a4, rfl⟩ := shT_int h4
 obtain ⟨a5, rfl⟩ := shT_bool h5
 obtain ⟨a6, rfl⟩ := shT_bool h6
 exact ⟨fa0, a0, a1, a2, a3, a4, a5, a6, rfl, ga0⟩
theorem rowr_Conn {r : List T} (h : shR kConn r = true) (hr : r.all roT = true) : ∃ (a0 : List (List T)) (a1 : Bool) (a2 : Int) (a3 : Int) (a4 : Int) (a5 : Bool) (a6 : Bool), r = [.sl .ro 1 a0, tB a1, tI a2, tI a3, tI a4, tB a5, tB a6] ∧ shRs [kB] a0 = true := by
 obtain ⟨fa0, a0, a1, a2, a3, a4, a5, a6, rfl, ga0⟩ := row_Conn h
 simp only [List.all_cons, List.all_nil, Bool.and_eq_true] at hr
 obtain rfl : fa0 = .ro := by
  have hh : roT (.sl fa0 1 a0) = true := by simp_all
  cases fa0 <;> first | rfl | cases hh
 exact ⟨a0, a1, a2, a3, a4, a5, a6, rfl, ga0⟩
theorem row_Shard {r : List T} (h : shR kShard r = true) : ∃ (fa0 : Fl) (a0 : List (List T)) (a1 : Int) (a2 : Int) (a3 : Int), r = [.sl fa0 6 a0, tI a1, tI a2, tI a3] ∧ shRs kAggT a0 = true := by
 obtain ⟨t0, r, rfl, h0, h⟩ := shR_cons h
 obtain ⟨t1, r, rfl, h1, h⟩ := shR_cons h
 obtain ⟨t2, r, rfl, h2, h⟩ := shR_cons h
 obtain ⟨t3, r, rfl, h3, h⟩ := shR_cons h
 obtain rfl := shR_nil h
 obtain ⟨fa0, a0, rfl, ga0⟩ := shT_sl h0
 obtain ⟨a1, rfl⟩ := shT_int h1
 obtain ⟨a2, rfl⟩ := shT_int h2
 obtain ⟨a3, rfl⟩ := shT_int h3
 exact ⟨fa0, a0, a1, a2, a3, rfl, ga0⟩
theorem rowr_Shard {r : List T} (h : shR kShard r = true) (hr : r.all roT = true) : ∃ (a0 : List (List T)) (a1 : Int) (a2 : Int) (a3 : Int), r = [.sl .ro 6 a0, tI a1, tI a2, tI a3] ∧ shRs kAggT a0 = true := by
 obtain ⟨fa0, a0, a1, a2, a3, rfl, ga0⟩ := row_Shard h
 simp only [List.all_cons, List.all_nil, Bool.and_eq_true] at hr
 obtain rfl : fa0 = .ro := by
  have hh : roT (.sl fa0 6 a0) = true := by simp_all
  cases fa0 <;> first | rfl | cases hh
 exact ⟨a0, a1, a2, a3, rfl, ga0⟩
theorem row_Setup {r : List T} (h : shR kSetup r = true) : ∃ (a0 : Int) (a1 : Int) (a2 : Int) (a3 : Int) (a4 : Int) (a5 : Int) (a6 : Int) (a7 : Int) (a8 : Int), r = [tI a0, tI a1, tI a2, tI a3, tI a4, tI a5, tI a6, tI a7, tI a8] ∧ True := by
 obtain ⟨t0, r, rfl, h0, h⟩ := shR_cons h
 obtain ⟨t1, r, rfl, h1, h⟩ := shR_cons h
 obtain ⟨t2, r, rfl, h2, h⟩ := shR_cons h
 obtain ⟨t3, r, rfl, h3, h⟩ := shR_cons h
 obtain ⟨t4, r, rfl, h4, h⟩ := shR_cons h
 obtain ⟨t5, r, rfl, h5, h⟩ := shR_cons h
 obtain ⟨t6, r, rfl, h6, h⟩ := shR_cons h
 obtain ⟨t7, r, rfl, h7, h⟩ := shR_cons h
 obtain ⟨t8, r, rfl, h8, h⟩ := shR_cons h
 obtain rfl := shR_nil h
 obtain ⟨a0, rfl⟩ := shT_int h0
 obtain ⟨a1, rfl⟩ := shT_int h1
 obtain ⟨a2, rfl⟩ := shT_int h2
 obtain ⟨a3, rfl⟩ := shT_int h3
 obtain ⟨a4, rfl⟩ := shT_int h4
 obtain ⟨a5, rfl⟩ := shT_int h5
 obtain ⟨a6, rfl⟩ := shT_int h6
 obtain ⟨a7, rfl⟩ := shT_int h7
 obtain ⟨a8, rfl⟩ := shT_int h8
 exact ⟨a0, a1, a2, a3, a4, a5, a6, a7, a8, rfl, trivial⟩
theorem rowr_Setup {r : List T} (h : shR kSetup r = true) (hr : r.all roT = true) : ∃ (a0 : Int) (a1 : Int) (a2 : Int) (a3 : Int) (a4 : Int) (a5 : Int) (a6 : Int) (a7 : Int) (a8 : Int), r = [tI a0, tI a1, tI a2, tI a3, tI a4, tI a5, tI a6, tI a7, tI a8] ∧ True := row_Setup h
theorem row_Tally {r : List T} (h : shR kTally r = true) : ∃ (a0 : Int) (a1 : Int) (a2 : Int) (a3 : Int) (a4 : Int) (a5 : Int), r = [tI a0, tI a1, tI a2, tI a3, tI a4, tI a5] ∧ True := by
 obtain ⟨t0, r, rfl, h0, h⟩ := shR_cons h
 obtain ⟨t1, r, rfl, h1, h⟩ := shR_cons h
 obtain ⟨t2, r, rfl, h2, h⟩ := shR_cons h
 obtain ⟨t3, r, rfl, h3, h⟩ := shR_cons h
 obtain ⟨t4, r, rfl, h4, h⟩ := shR_cons h
 obtain ⟨t5, r, rfl, h5, h⟩ := shR_cons h
 obtain rfl := shR_nil h
 obtain ⟨a0, rfl⟩ := shT_int h0
 obtain ⟨a1, rfl⟩ := shT_int h1
 obtain ⟨a2, rfl⟩ := shT_int h2
 obtain ⟨a3, rfl⟩ := shT_int h3
 obtain ⟨a4, rfl⟩ := shT_int h4
 obtain ⟨a5, rfl⟩ := shT_int h5
 exact ⟨a0, a1, a2, a3, a4, a5, rfl, trivial⟩
theorem rowr_Tally {r : List T} (h : shR kTally r = true) (hr : r.all roT = true) : ∃ (a0 : Int) (a1 : Int) (a2 : Int) (a3 : Int) (a4 : Int) (a5 : Int), r = [tI a0, tI a1, tI a2, tI a3, tI a4, tI a5] ∧ True := row_Tally h
theorem row_Op {r : List T} (h : shR kOp r = true) : ∃ (a0 : Int) (a1 : Int) (a2 : Int) (fa3 : Fl) (a3 : List (List T)), r = [tI a0, tI a1, tI a2, .sl fa3 1 a3] ∧ shRs [kB] a3 = true := by
 obtain ⟨t0, r, rfl, h0, h⟩ := shR_cons h
 obtain ⟨t1, r, rfl, h1, h⟩ := shR_cons h
 obtain ⟨t2, r, rfl, h2, h⟩ := shR_cons h
 obtain ⟨t3, r, rfl, h3, h⟩ := shR_cons h
 obtain rfl := shR_nil h
 obtain ⟨a0, rfl⟩ := shT_int h0
 obtain ⟨a1, rfl⟩ := shT_int h1
 obtain ⟨a2, rfl⟩ := shT_int h2
 obtain ⟨fa3, a3, rfl, ga3⟩ := shT_sl h3
 exact ⟨a0, a1, a2, fa3, a3, rfl, ga3⟩
theorem rowr_Op {r : List T} (h : shR kOp r = true) (hr : r.all roT = true) : ∃ (a0 : Int) (a1 : Int) (a2 : Int) (a3 : List (List T)), r = [tI a0, tI a1, tI a2, .sl .ro 1 a3] ∧ shRs [kB] a3 = true := by
 obtain ⟨a0, a1, a2, fa3, a3, rfl, ga3⟩ := row_Op h
 simp only [List.all_cons, List.all_nil, Bool.and_eq_true] at hr
 obtain rfl : fa3 = .ro := by
  have hh : roT (.sl fa3 1 a3) = true := by simp_all
  cases fa3 <;> first | rfl | cases hh
 exact ⟨a0, a1, a2, a3, rfl, ga3⟩
theorem row_Engine {r : List T} (h : shR kEngine r = true) : ∃ (a0 : Int) (a1 : Int) (a2 : Int) (a3 : Int) (a4 : Int) (a5 : Int) (a6 : Int) (a7 : Int) (a8 : Int) (a9 : Int) (a10 : Int) (fa11 : Fl) (a11 : List (List T)) (fa12 : Fl) (a12 : List (List T)) (fa13 : Fl) (a13 : List (List T)) (fa14 : Fl) (a14 : List (List T)) (fa15 : Fl) (a15 : List (List T)) (a16 : Int) (fa17 : Fl) (a17 : List (List T)) (a18 : Int) (a19 : Int) (a20 : Int) (a21 : Int) (a22 : Int) (a23 : Int), r = [tI a0, tI a1, tI a2, tI a3, tI a4, tI a5, tI a6, tI a7, tI a8, tI a9, tI a10, .sl fa11 7 a11, .sl fa12 5 a12, .sl fa13 1 a13, .sl fa14 4 a14, .sl fa15 6 a15, tI a16, .sl fa17 1 a17, tI a18, tI a19, tI a20, tI a21, tI a22, tI a23] ∧ shRs kConn a11 = true ∧ shRs kMsg a12 = true ∧ shRs [.sl kMsg] a13 = true ∧ shRs kShard a14 = true ∧ shRs kAggT a15 = true ∧ shRs [kI] a17 = true := by
 obtain ⟨t0, r, rfl, h0, h⟩ := shR_cons h
 obtain ⟨t1, r, rfl, h1, h⟩ := shR_cons h
 obtain ⟨t2, r, rfl, h2, h⟩ := shR_cons h
 obtain ⟨t3, r, rfl, h3, h⟩ := shR_cons h
 obtain ⟨t4, r, rfl, h4, h⟩ := shR_cons h
 obtain ⟨t5, r, rfl, h5, h⟩ := shR_cons h
 obtain ⟨t6, r, rfl, h6, h⟩ := shR_cons h
 obtain ⟨t7, r, rfl, h7, h⟩ := shR_cons h
 obtain ⟨t8, r, rfl, h8, h⟩ := shR_cons h
 obtain ⟨t9, r, rfl, h9, h⟩ := shR_cons h
 obtain ⟨t10, r, rfl, h10, h⟩ := shR_cons h
 obtain ⟨t11, r, rfl, h11, h⟩ := shR_cons h
 obtain ⟨t12, r, rfl, h12, h⟩ := shR_cons h
 obtain ⟨t13, r, rfl, h13, h⟩ := shR_cons h
 obtain ⟨t14, r, rfl, h14, h⟩ := shR_cons h
 obtain ⟨t15, r, rfl, h15, h⟩ := shR_cons h
 obtain ⟨t16, r, rfl, h16, h⟩ := shR_cons h
 obtain ⟨t17, r, rfl, h17, h⟩ := shR_cons h
 obtain ⟨t18, r, rfl, h18, h⟩ := shR_cons h
 obtain ⟨t19, r, rfl, h19, h⟩ := shR_cons h
 obtain ⟨t20, r, rfl, h20, h⟩ := shR_cons h
 obtain ⟨t21, r, rfl, h21, h⟩ := shR_cons h
 obtain ⟨t22, r, rfl, h22, h⟩ := shR_cons h
 obtain ⟨t23, r, rfl, h23, h⟩ := shR_cons h
 obtain rfl := shR_nil h
 obtain ⟨a0, rfl⟩ := shT_int h0
 obtain ⟨a1, rfl⟩ := shT_int h1
 obtain ⟨a2, rfl⟩ := shT_int h2
 obtain ⟨a3, rfl⟩ := shT_int h3
 obtain ⟨a4, rfl⟩ := shT_int h4
 obtain ⟨a5, rfl⟩ := shT_int h5
 obtain ⟨a6, rfl⟩ := shT_int h6
 obtain ⟨a7, rfl⟩ := shT_int h7
 obtain ⟨a8, rfl⟩ := shT_int h8
 obtain ⟨a9, rfl⟩ := shT_int h9
 obtain ⟨a10, rfl⟩ := shT_int h10
 obtain ⟨fa11, a11, rfl, ga11⟩ := shT_sl h11
 obtain ⟨fa12, a12, rfl, ga12⟩ := shT_sl h12
 obtain ⟨fa13, a13, rfl, ga13⟩ := shT_sl h13
 obtain ⟨fa14, a14, rfl, ga14⟩ := shT_sl h14
 obtain ⟨fa15, a15, rfl, ga15⟩ := shT_sl h15
 obtain ⟨a16, rfl⟩ := shT_int h16
 obtain ⟨fa17, a17, rfl, ga17⟩ := shT_sl h17
 obtain ⟨a18, rfl⟩ := shT_int h18
 obtain ⟨a19, rfl⟩ := shT_int h19
 obtain ⟨a20, rfl⟩ := shT_int h20
 obtain ⟨a21, rfl⟩ := shT_int h21
 obtain ⟨a22, rfl⟩ := shT_int h22
 obtain ⟨a23, rfl⟩ := shT_int h23
 exact ⟨a0, a1, a2, a3, a4, a5, a6, a7, a8, a9, a10, fa11, a11, fa12, a12, fa13, a13, fa14, a14, fa15, a15, a16, fa17, a17, a18, a19, a20, a21, a22, a23, rfl, ga11, ga12, ga13, ga14, ga15, ga17⟩
theorem rowr_Engine {r : List T} (h : shR kEngine r = true) (hr : r.all roT = true) : ∃ (a0 : Int) (a1 : Int) (a2 : Int) (a3 : Int) (a4 : Int) (a5 : Int) (a6 : Int) (a7 : Int) (a8 : Int) (a9 : Int) (a10 : Int) (a11 : List (List T)) (a12 : List (List T)) (a13 : List (List T)) (a14 : List (List T)) (a15 : List (List T)) (a16 : Int) (a17 : List (List T)) (a18 : Int) (a19 : Int) (a20 : Int) (a21 : Int) (a22 : Int) (a23 : Int), r = [tI a0, tI a1, tI a2, tI a3, tI a4, tI a5, tI a6, tI a7, tI a8, tI a9, tI a10, .sl .ro 7 a11, .sl .ro 5 a12, .sl .ro 1 a13, .sl .ro 4 a14, .sl .ro 6 a15, tI a16, .sl .ro 1 a17, tI a18, tI a19, tI a20, tI a21, tI a22, tI a23] ∧ shRs kConn a11 = true ∧ shRs kMsg a12 = true ∧ shRs [.sl kMsg] a13 = true ∧ shRs kShard a14 = true ∧ shRs kAggT a15 = true ∧ shRs [kI] a17 = true := by
 obtain ⟨a0, a1, a2, a3, a4, a5, a6, a7, a8, a9, a10, fa11, a11, fa12, a12, fa13, a13, fa14, a14, fa15, a15, a16, fa17, a17, a18, a19, a20, a21, a22, a23, rfl, ga11, ga12, ga13, ga14, ga15, ga17⟩ := row_Engine h
 simp only [List.all_cons, List.all_nil, Bool.and_eq_true] at hr
 obtain rfl : fa11 = .ro := by
  have hh : roT (.sl fa11 7 a11) = true := by simp_all
  cases fa11 <;> first | rfl | cases hh
 obtain rfl : fa12 = .ro := by
  have hh : roT (.sl fa12 5 a12) = true := by simp_all
  cases fa12 <;> first | rfl | cases hh
 obtain rfl : fa13 = .ro := by
  have hh : roT (.sl fa13 1 a13) = true := by simp_all
  cases fa13 <;> first | rfl | cases hh
 obtain rfl : fa14 = .ro := by
  have hh : roT (.sl fa14 4 a14) = true := by simp_all
  cases fa14 <;> first | rfl | cases hh
 obtain rfl : fa15 = .ro := by
  have hh : roT (.sl fa15 6 a15) = true := by simp_all
  cases fa15 <;> first | rfl | cases hh
 obtain rfl : fa17 = .ro := by
  have hh : roT (.sl fa17 1 a17) = true := by simp_all
  cases fa17 <;> first | rfl | cases hh
 exact ⟨a0, a1, a2, a3, a4, a5, a6, a7, a8, a9, a10, a11, a12, a13, a14, a15, a16, a17, a18, a19, a20, a21, a22, a23, rfl, ga11, ga12, ga13, ga14, ga15, ga17⟩
theorem b_toDecoder {ts : List T} (hr : ts.all roT = true) (h : pToR kDecoder ts = true) : body lp0 ET12 91 [.ag ts] [] = some (.ret ⟨[.ag (cpR ts)], [], []⟩) := by
 rw [pToR_eq, Bool.and_eq_true] at h
 obtain ⟨hs, hl⟩ := h
 obtain ⟨a0, a1, rfl, ga0⟩ := rowr_Decoder hs hr
 simp only [lenR, lenT, Bool.and_eq_true, decide_eq_true_eq] at hl
 rw [nf_91]
 simp [pTo_eq, pToR_eq, pEq_eq, pEqR_eq, pSz_eq, pSzR_eq, shR, shT, lenR, lenT, noRo_sOwn, cpR, cpT, ga0, hl]

theorem b_toSource {ts : List T} (hr : ts.all roT = true) (h : pToR kSource ts = true) : body lp0 ET13 92 [.ag ts] [] = some (.ret ⟨[.ag (cpR ts)], [], []⟩) := by
 rw [pToR_eq, Bool.and_eq_true] at h
 obtain ⟨hs, hl⟩ := h
 obtain ⟨a0, a1, a2, a3, a4, rfl, _⟩ := rowr_Source hs hr
 simp only [lenR, lenT, Bool.and_eq_true, decide_eq_true_eq] at hl
 rw [nf_92]
 simp [pTo_eq, pToR_eq, pEq_eq, pEqR_eq, pSz_eq, pSzR_eq, shR, shT, lenR, lenT, noRo_sOwn, cpR, cpT, hl]

theorem b_toConn {ts : List T} (hr : ts.all roT = true) (h : pToR kConn ts = true) : body lp0 ET14 71 [.ag ts] [] = some (.ret ⟨[.ag (cpR ts)], [], []⟩) := by
 rw [pToR_eq, Bool.and_eq_true] at h
 obtain ⟨hs, hl⟩ := h
 obtain ⟨a0, a1, a2, a3, a4, a5, a6, rfl, ga0⟩ := rowr_Conn hs hr
 simp only [lenR, lenT, Bool.and_eq_true, decide_eq_true_eq] at hl
 rw [nf_71]
 simp [pTo_eq, pToR_eq, pEq_eq, pEqR_eq, pSz_eq, pSzR_eq, shR, shT, lenR, lenT, noRo_sOwn, cpR, cpT, ga0, hl]

theorem b_toFrame {ts : List T} (hr : ts.all roT = true) (h : pToR kFrame ts = true) : body lp0 ET16 93 [.ag ts] [] = some (.ret ⟨[.ag (cpR ts)], [], []⟩) := by
 rw [pToR_eq, Bool.and_eq_true] at h
 obtain ⟨hs, hl⟩ := h
 obtain ⟨a0, a1, a2, a3, rfl, _⟩ := rowr_Frame hs hr
 simp only [lenR, lenT, Bool.and_eq_true, decide_eq_true_eq] at hl
 rw [nf_93]
 simp [pTo_eq, pToR_eq, pEq_eq, pEqR_eq, pSz_eq, pSzR_eq, shR, shT, lenR, lenT, noRo_sOwn, cpR, cpT, hl]

theorem b_toMsg {ts : List T} (hr : ts.all roT = true) (h : pToR kMsg ts = true) : body lp0 ET17 72 [.ag ts] [] = some (.ret ⟨[.ag (cpR ts)], [], []⟩) := by
 rw [pToR_eq, Bool.and_eq_true] at h
 obtain ⟨hs, hl⟩ := h
 obtain ⟨a0, a1, a2, a3, a4, rfl, _⟩ := rowr_Msg hs hr
 simp only [lenR, lenT, Bool.and_eq_true, decide_eq_true_eq] at hl
 rw [nf_72]
 simp [pTo_eq, pToR_eq, pEq_eq, pEqR_eq, pSz_eq, pSzR_eq, shR, shT, lenR, lenT, noRo_sOwn, cpR, cpT, hl]

theorem b_toAgg {ts : List T} (hr : ts.all roT = true) (h : pToR kAggT ts = true) : body lp0 ET20 74 [.ag ts] [] = some (.ret ⟨[.ag (cpR ts)], [], []⟩) := by
 rw [pToR_eq, Bool.and_eq_true] at h
 obtain ⟨hs, hl⟩ := h
 obtain ⟨a0, a1, a2, a3, a4, a5, rfl, _⟩ := rowr_Agg hs hr
 simp only [lenR, lenT, Bool.and_eq_true, decide_eq_true_eq] at hl
 rw [nf_74]
 simp [pTo_eq, pToR_eq, pEq_eq, pEqR_eq, pSz_eq, pSzR_eq, shR, shT, lenR, lenT, noRo_sOwn, cpR, cpT, hl]

theorem b_toShard {ts : List T} (hr : ts.all roT = true) (h : pToR kShard ts = true) : body lp0 ET22 73 [.ag ts] [] = some (.ret ⟨[.ag (cpR ts)], [], []⟩) := by
 rw [pToR_eq, Bool.and_eq_true] at h
 obtain ⟨hs, hl⟩ := h
 obtain ⟨a0, a1, a2, a3, rfl, ga0⟩ := rowr_Shard hs hr
 simp only [lenR, lenT, Bool.and_eq_true, decide_eq_true_eq] at hl
 rw [nf_73]
 simp [pTo_eq, pToR_eq, pEq_eq, pEqR_eq, pSz_eq, pSzR_eq, shR, shT, lenR, lenT, noRo_sOwn, cpR, cpT, ga0, hl]

theorem b_toSetup {ts : List T} (hr : ts.all roT = true) (h : pToR kSetup ts = true) : body lp0 ET25 8 [.ag ts] [] = some (.ret ⟨[.ag (cpR ts)], [], []⟩) := by
 rw [pToR_eq, Bool.and_eq_true] at h
 obtain ⟨hs, hl⟩ := h
 obtain ⟨a0, a1, a2, a3, a4, a5, a6, a7, a8, rfl, _⟩ := rowr_Setup hs hr
 simp only [lenR, lenT, Bool.and_eq_true, decide_eq_true_eq] at hl
 rw [nf_8]
 simp [pTo_eq, pToR_eq, pEq_eq, pEqR_eq, pSz_eq, pSzR_eq, shR, shT, lenR, lenT, noRo_sOwn, cpR, cpT, hl]

theorem b_toTally {ts : List T} (hr : ts.all roT = true) (h : pToR kTally ts = true) : body lp0 ET26 46 [.ag ts] [] = some (.ret ⟨[.ag (cpR ts)], [], []⟩) := by
 rw [pToR_eq, Bool.and_eq_true] at h
 obtain ⟨hs, hl⟩ := h
 obtain ⟨a0, a1, a2, a3, a4, a5, rfl, _⟩ := rowr_Tally hs hr
 simp only [lenR, lenT, Bool.and_eq_true, decide_eq_true_eq] at hl
 rw [nf_46]
 simp [pTo_eq, pToR_eq, pEq_eq, pEqR_eq, pSz_eq, pSzR_eq, shR, shT, lenR, lenT, noRo_sOwn, cpR, cpT, hl]


theorem b_toEngine {ts : List T} (hr : ts.all roT = true) (h : pToR kEngine ts = true) : body lp0 ET27 12 [.ag ts] [] = some (.ret ⟨[.ag (cpR ts)], [], []⟩) := by
 rw [pToR_eq, Bool.and_eq_true] at h
 obtain ⟨hs, hl⟩ := h
 obtain ⟨a0, a1, a2, a3, a4, a5, a6, a7, a8, a9, a10, a11, a12, a13, a14, a15, a16, a17, a18, a19, a20, a21, a22, a23, rfl, ga11, ga12, ga13, ga14, ga15, ga17⟩ := rowr_Engine hs hr
 simp only [lenR, lenT, Bool.and_eq_true, decide_eq_true_eq] at hl
 rw [nf_12]
 simp [pTo_eq, pToR_eq, pEq_eq, pEqR_eq, pSz_eq, pSzR_eq, shR, shT, lenR, lenT, noRo_sOwn, cpR, cpT, ga11, ga12, ga13, ga14, ga15, ga17, hl]



theorem b_eqDecoder {xs ys : List T} (hr : xs.all roT = true) (hr' : ys.all roT = true) (h : pEqR kDecoder xs = true) (h' : pEqR kDecoder ys = true) : body lp0 ET29 94 [.ag xs, .ag ys] [] = some (.ret (oB (sEqR xs ys))) := by
 rw [pEqR_eq, Bool.and_eq_true] at h h'
 obtain ⟨hs, hl⟩ := h
 obtain ⟨hs', hl'⟩ := h'
 obtain ⟨a0, a1, rfl, ga0⟩ := rowr_Decoder hs hr
 obtain ⟨b0, b1, rfl, gb0⟩ := rowr_Decoder hs' hr'
 simp only [lenR, lenT, Bool.and_eq_true, decide_eq_true_eq] at hl hl'
 rw [nf_94]
 simp only [pEq_eq, pEqR_eq, shR, shT, lenR, lenT, hl, hl', ga0, gb0, decide_true, Bool.and_true, Bool.true_and, cond_true, List.length_cons, List.length_nil, Nat.reduceAdd, Nat.zero_add, eqChain]
 simp only [show some (LRes.ret (oB true)) = some (.ret (oB (true && true))) from rfl, eqChain, sEqR_ti, sEqR_tb, sEqR_ts, sEqR_nil, Bool.and_true, Bool.and_assoc]

theorem b_eqSource {xs ys : List T} (hr : xs.all roT = true) (hr' : ys.all roT = true) (h : pEqR kSource xs = true) (h' : pEqR kSource ys = true) : body lp0 ET30 95 [.ag xs, .ag ys] [] = some (.ret (oB (sEqR xs ys))) := by
 rw [pEqR_eq, Bool.and_eq_true] at h h'
 obtain ⟨hs, hl⟩ := h
 obtain ⟨hs', hl'⟩ := h'
 obtain ⟨a0, a1, a2, a3, a4, rfl, _⟩ := rowr_Source hs hr
 obtain ⟨b0, b1, b2, b3, b4, rfl, _⟩ := rowr_Source hs' hr'
 simp only [lenR, lenT, Bool.and_eq_true, decide_eq_true_eq] at hl hl'
 rw [nf_95]
 simp only [pEq_eq, pEqR_eq, shR, shT, lenR, lenT, hl, hl', decide_true, Bool.and_true, Bool.true_and, cond_true, List.length_cons, List.length_nil, Nat.reduceAdd, Nat.zero_add, eqChain]
 simp only [show some (LRes.ret (oB true)) = some (.ret (oB (true && true))) from rfl, eqChain, sEqR_ti, sEqR_tb, sEqR_ts, sEqR_nil, Bool.and_true, Bool.and_assoc]

theorem b_eqConn {xs ys : List T} (hr : xs.all roT = true) (hr' : ys.all roT = true) (h : pEqR kConn xs = true) (h' : pEqR kConn ys = true) : body lp0 ET31 75 [.ag xs, .ag ys] [] = some (.ret (oB (sEqR xs ys))) := by
 rw [pEqR_eq, Bool.and_eq_true] at h h'
 obtain ⟨hs, hl⟩ := h
 obtain ⟨hs', hl'⟩ := h'
 obtain ⟨a0, a1, a2, a3, a4, a5, a6, rfl, ga0⟩ := rowr_Conn hs hr
 obtain ⟨b0, b1, b2, b3, b4, b5, b6, rfl, gb0⟩ := rowr_Conn hs' hr'
 simp only [lenR, lenT, Bool.and_eq_true, decide_eq_true_eq] at hl hl'
 rw [nf_75]
 simp only [pEq_eq, pEqR_eq, shR, shT, lenR, lenT, hl, hl', ga0, gb0, decide_true, Bool.and_true, Bool.true_and, cond_true, List.length_cons, List.length_nil, Nat.reduceAdd, Nat.zero_add, eqChain]
 simp only [show some (LRes.ret (oB true)) = some (.ret (oB (true && true))) from rfl, eqChain, sEqR_ti, sEqR_tb, sEqR_ts, sEqR_nil, Bool.and_true, Bool.and_assoc]

theorem b_eqFrame {xs ys : List T} (hr : xs.all roT = true) (hr' : ys.all roT = true) (h : pEqR kFrame xs = true) (h' : pEqR kFrame ys = true) : body lp0 ET33 96 [.ag xs, .ag ys] [] = some (.ret (oB (sEqR xs ys))) := by
 rw [pEqR_eq, Bool.and_eq_true] at h h'
 obtain ⟨hs, hl⟩ := h
 obtain ⟨hs', hl'⟩ := h'
 obtain ⟨a0, a1, a2, a3, rfl, _⟩ := rowr_Frame hs hr
 obtain ⟨b0, b1, b2, b3, rfl, _⟩ := rowr_Frame hs' hr'
 simp only [lenR, lenT, Bool.and_eq_true, decide_eq_true_eq] at hl hl'
 rw [nf_96]
 simp only [pEq_eq, pEqR_eq, shR, shT, lenR, lenT, hl, hl', decide_true, Bool.and_true, Bool.true_and, cond_true, List.length_cons, List.length_nil, Nat.reduceAdd, Nat.zero_add, eqChain]
 simp only [show some (LRes.ret (oB true)) = some (.ret (oB (true && true))) from rfl, eqChain, sEqR_ti, sEqR_tb, sEqR_ts, sEqR_nil, Bool.and_true, Bool.and_assoc]

theorem b_eqMsg {xs ys : List T} (hr : xs.all roT = true) (hr' : ys.all roT = true) (h : pEqR kMsg xs = true) (h' : pEqR kMsg ys = true) : body lp0 ET34 76 [.ag xs, .ag ys] [] = some (.ret (oB (sEqR xs ys))) := by
 rw [pEqR_eq, Bool.and_eq_true] at h h'
 obtain ⟨hs, hl⟩ := h
 obtain ⟨hs', hl'⟩ := h'
 obtain ⟨a0, a1, a2, a3, a4, rfl, _⟩ := rowr_Msg hs hr
 obtain ⟨b0, b1, b2, b3, b4, rfl, _⟩ := rowr_Msg hs' hr'
 simp only [lenR, lenT, Bool.and_eq_true, decide_eq_true_eq] at hl hl'
 rw [nf_76]
 simp only [pEq_eq, pEqR_eq, shR, shT, lenR, lenT, hl, hl', decide_true, Bool.and_true, Bool.true_and, cond_true, List.length_cons, List.length_nil, Nat.reduceAdd, Nat.zero_add, eqChain]
 simp only [show some (LRes.ret (oB true)) = some (.ret (oB (true && true))) from rfl, eqChain, sEqR_ti, sEqR_tb, sEqR_ts, sEqR_nil, Bool.and_true, Bool.and_assoc]

theorem b_eqAgg {xs ys : List T} (hr : xs.all roT = true) (hr' : ys.all roT = true) (h : pEqR kAggT xs = true) (h' : pEqR kAggT ys = true) : body lp0 ET37 78 [.ag xs, .ag ys] [] = some (.ret (oB (sEqR xs ys))) := by
 rw [pEqR_eq, Bool.and_eq_true] at h h'
 obtain ⟨hs, hl⟩ := h
 obtain ⟨hs', hl'⟩ := h'
 obtain ⟨a0, a1, a2, a3, a4, a5, rfl, _⟩ := rowr_Agg hs hr
 obtain ⟨b0, b1, b2, b3, b4, b5, rfl, _⟩ := rowr_Agg hs' hr'
 simp only [lenR, lenT, Bool.and_eq_true, decide_eq_true_eq] at hl hl'
 rw [nf_78]
 simp only [pEq_eq, pEqR_eq, shR, shT, lenR, lenT, hl, hl', decide_true, Bool.and_true, Bool.true_and, cond_true, List.length_cons, List.length_nil, Nat.reduceAdd, Nat.zero_add, eqChain]
 simp only [show some (LRes.ret (oB true)) = some (.ret (oB (true && true))) from rfl, eqChain, sEqR_ti, sEqR_tb, sEqR_ts, sEqR_nil, Bool.and_true, Bool.and_assoc]

theorem b_eqShard {xs ys : List T} (hr : xs.all roT = true) (hr' : ys.all roT = true) (h : pEqR kShard xs = true) (h' : pEqR kShard ys = true) : body lp0 ET39 77 [.ag xs, .ag ys] [] = some (.ret (oB (sEqR xs ys))) := by
 rw [pEqR_eq, Bool.and_eq_true] at h h'
 obtain ⟨hs, hl⟩ := h
 obtain ⟨hs', hl'⟩ := h'
 obtain ⟨a0, a1, a2, a3, rfl, ga0⟩ := rowr_Shard hs hr
 obtain ⟨b0, b1, b2, b3, rfl, gb0⟩ := rowr_Shard hs' hr'
 simp only [lenR, lenT, Bool.and_eq_true, decide_eq_true_eq] at hl hl'
 rw [nf_77]
 simp only [pEq_eq, pEqR_eq, shR, shT, lenR, lenT, hl, hl', ga0, gb0, decide_true, Bool.and_true, Bool.true_and, cond_true, List.length_cons, List.length_nil, Nat.reduceAdd, Nat.zero_add, eqChain]
 simp only [show some (LRes.ret (oB true)) = some (.ret (oB (true && true))) from rfl, eqChain, sEqR_ti, sEqR_tb, sEqR_ts, sEqR_nil, Bool.and_true, Bool.and_assoc]

theorem b_eqSetup {xs ys : List T} (hr : xs.all roT = true) (hr' : ys.all roT = true) (h : pEqR kSetup xs = true) (h' : pEqR kSetup ys = true) : body lp0 ET42 17 [.ag xs, .ag ys] [] = some (.ret (oB (sEqR xs ys))) := by
 rw [pEqR_eq, Bool.and_eq_true] at h h'
 obtain ⟨hs, hl⟩ := h
 obtain ⟨hs', hl'⟩ := h'
 obtain ⟨a0, a1, a2, a3, a4, a5, a6, a7, a8, rfl, _⟩ := rowr_Setup hs hr
 obtain ⟨b0, b1, b2, b3, b4, b5, b6, b7, b8, rfl, _⟩ := rowr_Setup hs' hr'
 simp only [lenR, lenT, Bool.and_eq_true, decide_eq_true_eq] at hl hl'
 rw [nf_17]
 simp only [pEq_eq, pEqR_eq, shR, shT, lenR, lenT, hl, hl', decide_true, Bool.and_true, Bool.true_and, cond_true, List.length_cons, List.length_nil, Nat.reduceAdd, Nat.zero_add, eqChain]
 simp only [show some (LRes.ret (oB true)) = some (.ret (oB (true && true))) from rfl, eqChain, sEqR_ti, sEqR_tb, sEqR_ts, sEqR_nil, Bool.and_true, Bool.and_assoc]

theorem b_eqTally {xs ys : List T} (hr : xs.all roT = true) (hr' : ys.all roT = true) (h : pEqR kTally xs = true) (h' : pEqR kTally ys = true) : body lp0 ET43 56 [.ag xs, .ag ys] [] = some (.ret (oB (sEqR xs ys))) := by
 rw [pEqR_eq, Bool.and_eq_true] at h h'
 obtain ⟨hs, hl⟩ := h
 obtain ⟨hs', hl'⟩ := h'
 obtain ⟨a0, a1, a2, a3, a4, a5, rfl, _⟩ := rowr_Tally hs hr
 obtain ⟨b0, b1, b2, b3, b4, b5, rfl, _⟩ := rowr_Tally hs' hr'
 simp only [lenR, lenT, Bool.and_eq_true, decide_eq_true_eq] at hl hl'
 rw [nf_56]
 simp only [pEq_eq, pEqR_eq, shR, shT, lenR, lenT, hl, hl', decide_true, Bool.and_true, Bool.true_and, cond_true, List.length_cons, List.length_nil, Nat.reduceAdd, Nat.zero_add, eqChain]
 simp only [show some (LRes.ret (oB true)) = some (.ret (oB (true && true))) from rfl, eqChain, sEqR_ti, sEqR_tb, sEqR_ts, sEqR_nil, Bool.and_true, Bool.and_assoc]


theorem b_eqEngine {xs ys : List T} (hr : xs.all roT = true) (hr' : ys.all roT = true) (h : pEqR kEngine xs = true) (h' : pEqR kEngine ys = true) : body lp0 ET44 14 [.ag xs, .ag ys] [] = some (.ret (oB (sEqR xs ys))) := by
 rw [pEqR_eq, Bool.and_eq_true] at h h'
 obtain ⟨hs, hl⟩ := h
 obtain ⟨hs', hl'⟩ := h'
 obtain ⟨a0, a1, a2, a3, a4, a5, a6, a7, a8, a9, a10, a11, a12, a13, a14, a15, a16, a17, a18, a19, a20, a21, a22, a23, rfl, ga11, ga12, ga13, ga14, ga15, ga17⟩ := rowr_Engine hs hr
 obtain ⟨b0, b1, b2, b3, b4, b5, b6, b7, b8, b9, b10, b11, b12, b13, b14, b15, b16, b17, b18, b19, b20, b21, b22, b23, rfl, gb11, gb12, gb13, gb14, gb15, gb17⟩ := rowr_Engine hs' hr'
 simp only [lenR, lenT, Bool.and_eq_true, decide_eq_true_eq] at hl hl'
 rw [nf_14]
 simp only [pEq_eq, pEqR_eq, shR, shT, lenR, lenT, hl, hl', ga11, gb11, ga12, gb12, ga13, gb13, ga14, gb14, ga15, gb15, ga17, gb17, decide_true, Bool.and_true, Bool.true_and, cond_true, List.length_cons, List.length_nil, Nat.reduceAdd, Nat.zero_add, eqChain]
 simp only [show some (LRes.ret (oB true)) = some (.ret (oB (true && true))) from rfl, eqChain, sEqR_ti, sEqR_tb, sEqR_ts, sEqR_nil, Bool.and_true, Bool.and_assoc]

theorem b_toByteS {rs : List (List T)} (h : pTo [kB] rs = true) : body lp0 ET11 110 [.c (.sl .ro 1 rs)] [] = some (.ret ⟨[.c (.sl .own 1 (sOwn rs))], [], []⟩) := by
 rw [nf_110]
 have h' := h
 rw [pTo_eq] at h'
 simp only [Bool.and_eq_true, decide_eq_true_eq] at h'
 obtain ⟨⟨hs, hl⟩, hn⟩ := h'
 refine to_loop h rfl (fun i out hi ho => ?_) (fun out => ?_)
 ·obtain ⟨a0, hr, _⟩ := row_Byte (shRs_get hs hi)
  have hl2 := lenRs_get hl hi
  rw [hr] at hl2
  simp only [lenR, lenT, Bool.and_eq_true, decide_eq_true_eq] at hl2
  have hk : sOkC [.int .u8] rs (i : Int).toNat 0 = true := okc_sh' hs hi
  have hca0 : sCell rs (i : Int).toNat 0 = .im (.int .u8 a0) := by rw [cell_at' hi, hr]; rfl
  simp only [tAt0, tAt1, tAt2, iT_im, bT_im, rT_sl, okT_i, okT_b, okT_s, slT_sl, le_0, Bool.and_true, Bool.true_and, cond_true, cond_false, lt_len hi, hk, hca0, noRo_ownS, sOwn_eq, add1i (Nat.lt_of_lt_of_le hi (Nat.le_trans hn (by decide))), hr, ownR, ownT]
 ·simp only [tAt0, tAt1, tAt2, iT_im, bT_im, rT_sl, okT_i, okT_b, okT_s, slT_sl, le_0, Bool.and_true, Bool.true_and, cond_true, cond_false, lt_len']
theorem b_eqByteS {rs ss : List (List T)} (h : pEq [kB] rs = true) (h' : pEq [kB] ss = true) : body lp0 ET28 111 [.c (.sl .ro 1 rs), .c (.sl .ro 1 ss)] [] = some (.ret (oB (sEqS rs ss))) := by
 rw [nf_111]
 rw [pEq_eq] at h h'
 simp only [Bool.and_eq_true, decide_eq_true_eq] at h h'
 obtain ⟨⟨hs, hl⟩, hn⟩ := h
 obtain ⟨⟨hs', hl'⟩, hn'⟩ := h'
 refine eq_loop (fun i hi hi' => ?_) ?_
 ·obtain ⟨a0, hr, _⟩ := row_Byte (shRs_get hs hi)
  obtain ⟨b0, hr', _⟩ := row_Byte (shRs_get hs' hi')
  have hl2 := lenRs_get hl hi
  rw [hr] at hl2
  have hl2' := lenRs_get hl' hi'
  rw [hr'] at hl2'
  simp only [lenR, lenT, Bool.and_eq_true, decide_eq_true_eq] at hl2 hl2'
  have hk : sOkC [.int .u8] rs (i : Int).toNat 0 = true := okc_sh' hs hi
  have hk' : sOkC [.int .u8] ss (i : Int).toNat 0 = true := okc_sh' hs' hi'
  have hca0 : sCell rs (i : Int).toNat 0 = .im (.int .u8 a0) := by rw [cell_at' hi, hr]; rfl
  have hcb0 : sCell ss (i : Int).toNat 0 = .im (.int .u8 b0) := by rw [cell_at' hi', hr']; rfl
  have he : sEqR rs[i] ss[i] = sEq a0 b0 := by rw [hr, hr']; exact sEqR_int _ _ _
  rw [he]
  simp only [tAt0, tAt1, tAt2, iT_im, bT_im, rT_sl, okT_i, okT_b, okT_s, slT_sl, le_0, Bool.and_true, Bool.true_and, cond_true, cond_false, lt_len hi, lt_len hi', hk, hk', hca0, hcb0, add1i (Nat.lt_of_lt_of_le hi hn)] <;> (cases sEq a0 b0 <;> rfl)
 ·simp only [tAt0, tAt1, tAt2, iT_im, bT_im, rT_sl, okT_i, okT_b, okT_s, slT_sl, le_0, Bool.and_true, Bool.true_and, cond_true, cond_false, lt_len']
theorem b_toConnS {rs : List (List T)} (h : pTo kConn rs = true) : body lp0 ET15 40 [.c (.sl .ro 7 rs)] [] = some (.ret ⟨[.c (.sl .own 7 (sOwn rs))], [], []⟩) := by
 rw [nf_40]
 have h' := h
 rw [pTo_eq] at h'
 simp only [Bool.and_eq_true, decide_eq_true_eq] at h'
 obtain ⟨⟨hs, hl⟩, hn⟩ := h'
 refine to_loop h rfl (fun i out hi ho => ?_) (fun out => ?_)
 ·obtain ⟨fa0, a0, a1, a2, a3, a4, a5, a6, hr, ga0⟩ := row_Conn (shRs_get hs hi)
  have hl2 := lenRs_get hl hi
  rw [hr] at hl2
  simp only [lenR, lenT, Bool.and_eq_true, decide_eq_true_eq] at hl2
  have hk : sOkC [.sl 1, .bool, .int .i64, .int .i64, .int .i64, .bool, .bool] rs (i : Int).toNat 0 = true := okc_sh' hs hi
  have hca0 : sCell rs (i : Int).toNat 0 = .sl fa0 1 a0 := by rw [cell_at' hi, hr]; rfl
  have hca1 : sCell rs (i : Int).toNat 1 = tB a1 := by rw [cell_at' hi, hr]; rfl
  have hca2 : sCell rs (i : Int).toNat 2 = tI a2 := by rw [cell_at' hi, hr]; rfl
  have hca3 : sCell rs (i : Int).toNat 3 = tI a3 := by rw [cell_at' hi, hr]; rfl
  have hca4 : sCell rs (i : Int).toNat 4 = tI a4 := by rw [cell_at' hi, hr]; rfl
  have hca5 : sCell rs (i : Int).toNat 5 = tB a5 := by rw [cell_at' hi, hr]; rfl
  have hca6 : sCell rs (i : Int).toNat 6 = tB a6 := by rw [cell_at' hi, hr]; rfl
  have hp : pToR kConn [.sl .ro 1 a0, tB a1, tI a2, tI a3, tI a4, tB a5, tB a6] = true := by rw [pToR_eq]; simp [shR, shT, lenR, lenT, hl2, ga0]
  simp only [tAt0, tAt1, tAt2, iT_im, bT_im, rT_sl, okT_i, okT_b, okT_s, slT_sl, le_0, Bool.and_true, Bool.true_and, cond_true, cond_false, lt_len hi, hk, hca0, hca1, hca2, hca3, hca4, hca5, hca6, hp, noRo_ownS, sOwn_eq, add1i (Nat.lt_of_lt_of_le hi (Nat.le_trans hn (by decide))), hr, ownR, ownT]
 ·simp only [tAt0, tAt1, tAt2, iT_im, bT_im, rT_sl, okT_i, okT_b, okT_s, slT_sl, le_0, Bool.and_true, Bool.true_and, cond_true, cond_false, lt_len']
theorem b_eqConnS {rs ss : List (List T)} (h : pEq kConn rs = true) (h' : pEq kConn ss = true) : body lp0 ET32 50 [.c (.sl .ro 7 rs), .c (.sl .ro 7 ss)] [] = some (.ret (oB (sEqS rs ss))) := by
 rw [nf_50]
 rw [pEq_eq] at h h'
 simp only [Bool.and_eq_true, decide_eq_true_eq] at h h'
 obtain ⟨⟨hs, hl⟩, hn⟩ := h
 obtain ⟨⟨hs', hl'⟩, hn'⟩ := h'
 refine eq_loop (fun i hi hi' => ?_) ?_
 ·obtain ⟨fa0, a0, a1, a2, a3, a4, a5, a6, hr, ga0⟩ := row_Conn (shRs_get hs hi)
  obtain ⟨fb0, b0, b1, b2, b3, b4, b5, b6, hr', gb0⟩ := row_Conn (shRs_get hs' hi')
  have hl2 := lenRs_get hl hi
  rw [hr] at hl2
  have hl2' := lenRs_get hl' hi'
  rw [hr'] at hl2'
  simp only [lenR, lenT, Bool.and_eq_true, decide_eq_true_eq] at hl2 hl2'
  have hk : sOkC [.sl 1, .bool, .int .i64, .int .i64, .int .i64, .bool, .bool] rs (i : Int).toNat 0 = true := okc_sh' hs hi
  have hk' : sOkC [.sl 1, .bool, .int .i64, .int .i64, .int .i64, .bool, .bool] ss (i : Int).toNat 0 = true := okc_sh' hs' hi'
  have hca0 : sCell rs (i : Int).toNat 0 = .sl fa0 1 a0 := by rw [cell_at' hi, hr]; rfl
  have hca1 : sCell rs (i : Int).toNat 1 = tB a1 := by rw [cell_at' hi, hr]; rfl
  have hca2 : sCell rs (i : Int).toNat 2 = tI a2 := by rw [cell_at' hi, hr]; rfl
  have hca3 : sCell rs (i : Int).toNat 3 = tI a3 := by rw [cell_at' hi, hr]; rfl
  have hca4 : sCell rs (i : Int).toNat 4 = tI a4 := by rw [cell_at' hi, hr]; rfl
  have hca5 : sCell rs (i : Int).toNat 5 = tB a5 := by rw [cell_at' hi, hr]; rfl
  have hca6 : sCell rs (i : Int).toNat 6 = tB a6 := by rw [cell_at' hi, hr]; rfl
  have hcb0 : sCell ss (i : Int).toNat 0 = .sl fb0 1 b0 := by rw [cell_at' hi', hr']; rfl
  have hcb1 : sCell ss (i : Int).toNat 1 = tB b1 := by rw [cell_at' hi', hr']; rfl
  have hcb2 : sCell ss (i : Int).toNat 2 = tI b2 := by rw [cell_at' hi', hr']; rfl
  have hcb3 : sCell ss (i : Int).toNat 3 = tI b3 := by rw [cell_at' hi', hr']; rfl
  have hcb4 : sCell ss (i : Int).toNat 4 = tI b4 := by rw [cell_at' hi', hr']; rfl
  have hcb5 : sCell ss (i : Int).toNat 5 = tB b5 := by rw [cell_at' hi', hr']; rfl
  have hcb6 : sCell ss (i : Int).toNat 6 = tB b6 := by rw [cell_at' hi', hr']; rfl
  have hp : pEqR kConn [.sl .ro 1 a0, tB a1, tI a2, tI a3, tI a4, tB a5, tB a6] = true := by rw [pEqR_eq]; simp [shR, shT, lenR, lenT, hl2, ga0]
  have hp' : pEqR kConn [.sl .ro 1 b0, tB b1, tI b2, tI b3, tI b4, tB b5, tB b6] = true := by rw [pEqR_eq]; simp [shR, shT, lenR, lenT, hl2', gb0]
  have he : sEqR rs[i] ss[i] = sEqR [.sl .ro 1 a0, tB a1, tI a2, tI a3, tI a4, tB a5, tB a6] [.sl .ro 1 b0, tB b1, tI b2, tI b3, tI b4, tB b5, tB b6] := by rw [hr, hr']; exact sEqR_ro (by simp [ownR, ownT]) (by simp [ownR, ownT])
  rw [he]
  simp only [tAt0, tAt1, tAt2, iT_im, bT_im, rT_sl, okT_i, okT_b, okT_s, slT_sl, le_0, Bool.and_true, Bool.true_and, cond_true, cond_false, lt_len hi, lt_len hi', hk, hk', hca0, hca1, hca2, hca3, hca4, hca5, hca6, hcb0, hcb1, hcb2, hcb3, hcb4, hcb5, hcb6, hp, hp', add1i (Nat.lt_of_lt_of_le hi hn)] <;> (cases sEqR [.sl .ro 1 a0, tB a1, tI a2, tI a3, tI a4, tB a5, tB a6] [.sl .ro 1 b0, tB b1, tI b2, tI b3, tI b4, tB b5, tB b6] <;> rfl)
 ·simp only [tAt0, tAt1, tAt2, iT_im, bT_im, rT_sl, okT_i, okT_b, okT_s, slT_sl, le_0, Bool.and_true, Bool.true_and, cond_true, cond_false, lt_len']
theorem b_toMsgS {rs : List (List T)} (h : pTo kMsg rs = true) : body lp0 ET18 41 [.c (.sl .ro 5 rs)] [] = some (.ret ⟨[.c (.sl .own 5 (sOwn rs))], [], []⟩) := by
 rw [nf_41]
 have h' := h
 rw [pTo_eq] at h'
 simp only [Bool.and_eq_true, decide_eq_true_eq] at h'
 obtain ⟨⟨hs, hl⟩, hn⟩ := h'
 refine to_loop h rfl (fun i out hi ho => ?_) (fun out => ?_)
 ·obtain ⟨a0, a1, a2, a3, a4, hr, _⟩ := row_Msg (shRs_get hs hi)
  have hl2 := lenRs_get hl hi
  rw [hr] at hl2
  simp only [lenR, lenT, Bool.and_eq_true, decide_eq_true_eq] at hl2
  have hk : sOkC [.int .i64, .int .i64, .int .i64, .int .i64, .int .i64] rs (i : Int).toNat 0 = true := okc_sh' hs hi
  have hca0 : sCell rs (i : Int).toNat 0 = tI a0 := by rw [cell_at' hi, hr]; rfl
  have hca1 : sCell rs (i : Int).toNat 1 = tI a1 := by rw [cell_at' hi, hr]; rfl
  have hca2 : sCell rs (i : Int).toNat 2 = tI a2 := by rw [cell_at' hi, hr]; rfl
  have hca3 : sCell rs (i : Int).toNat 3 = tI a3 := by rw [cell_at' hi, hr]; rfl
  have hca4 : sCell rs (i : Int).toNat 4 = tI a4 := by rw [cell_at' hi, hr]; rfl
  have hp : pToR kMsg [tI a0, tI a1, tI a2, tI a3, tI a4] = true := by rw [pToR_eq]; simp [shR, shT, lenR, lenT, hl2]
  simp only [tAt0, tAt1, tAt2, iT_im, bT_im, rT_sl, okT_i, okT_b, okT_s, slT_sl, le_0, Bool.and_true, Bool.true_and, cond_true, cond_false, lt_len hi, hk, hca0, hca1, hca2, hca3, hca4, hp, noRo_ownS, sOwn_eq, add1i (Nat.lt_of_lt_of_le hi (Nat.le_trans hn (by decide))), hr, ownR, ownT]
 ·simp only [tAt0, tAt1, tAt2, iT_im, bT_im, rT_sl, okT_i, okT_b, okT_s, slT_sl, le_0, Bool.and_true, Bool.true_and, cond_true, cond_false, lt_len']
theorem b_eqMsgS {rs ss : List (List T)} (h : pEq kMsg rs = true) (h' : pEq kMsg ss = true) : body lp0 ET35 51 [.c (.sl .ro 5 rs), .c (.sl .ro 5 ss)] [] = some (.ret (oB (sEqS rs ss))) := by
 rw [nf_51]
 rw [pEq_eq] at h h'
 simp only [Bool.and_eq_true, decide_eq_true_eq] at h h'
 obtain ⟨⟨hs, hl⟩, hn⟩ := h
 obtain ⟨⟨hs', hl'⟩, hn'⟩ := h'
 refine eq_loop (fun i hi hi' => ?_) ?_
 ·obtain ⟨a0, a1, a2, a3, a4, hr, _⟩ := row_Msg (shRs_get hs hi)
  obtain ⟨b0, b1, b2, b3, b4, hr', _⟩ := row_Msg (shRs_get hs' hi')
  have hl2 := lenRs_get hl hi
  rw [hr] at hl2
  have hl2' := lenRs_get hl' hi'
  rw [hr'] at hl2'
  simp only [lenR, lenT, Bool.and_eq_true, decide_eq_true_eq] at hl2 hl2'
  have hk : sOkC [.int .i64, .int .i64, .int .i64, .int .i64, .int .i64] rs (i : Int).toNat 0 = true := okc_sh' hs hi
  have hk' : sOkC [.int .i64, .int .i64, .int .i64, .int .i64, .int .i64] ss (i : Int).toNat 0 = true := okc_sh' hs' hi'
  have hca0 : sCell rs (i : Int).toNat 0 = tI a0 := by rw [cell_at' hi, hr]; rfl
  have hca1 : sCell rs (i : Int).toNat 1 = tI a1 := by rw [cell_at' hi, hr]; rfl
  have hca2 : sCell rs (i : Int).toNat 2 = tI a2 := by rw [cell_at' hi, hr]; rfl
  have hca3 : sCell rs (i : Int).toNat 3 = tI a3 := by rw [cell_at' hi, hr]; rfl
  have hca4 : sCell rs (i : Int).toNat 4 = tI a4 := by rw [cell_at' hi, hr]; rfl
  have hcb0 : sCell ss (i : Int).toNat 0 = tI b0 := by rw [cell_at' hi', hr']; rfl
  have hcb1 : sCell ss (i : Int).toNat 1 = tI b1 := by rw [cell_at' hi', hr']; rfl
  have hcb2 : sCell ss (i : Int).toNat 2 = tI b2 := by rw [cell_at' hi', hr']; rfl
  have hcb3 : sCell ss (i : Int).toNat 3 = tI b3 := by rw [cell_at' hi', hr']; rfl
  have hcb4 : sCell ss (i : Int).toNat 4 = tI b4 := by rw [cell_at' hi', hr']; rfl
  have hp : pEqR kMsg [tI a0, tI a1, tI a2, tI a3, tI a4] = true := by rw [pEqR_eq]; simp [shR, shT, lenR, lenT, hl2]
  have hp' : pEqR kMsg [tI b0, tI b1, tI b2, tI b3, tI b4] = true := by rw [pEqR_eq]; simp [shR, shT, lenR, lenT, hl2']
  have he : sEqR rs[i] ss[i] = sEqR [tI a0, tI a1, tI a2, tI a3, tI a4] [tI b0, tI b1, tI b2, tI b3, tI b4] := by rw [hr, hr']
  rw [he]
  simp only [tAt0, tAt1, tAt2, iT_im, bT_im, rT_sl, okT_i, okT_b, okT_s, slT_sl, le_0, Bool.and_true, Bool.true_and, cond_true, cond_false, lt_len hi, lt_len hi', hk, hk', hca0, hca1, hca2, hca3, hca4, hcb0, hcb1, hcb2, hcb3, hcb4, hp, hp', add1i (Nat.lt_of_lt_of_le hi hn)] <;> (cases sEqR [tI a0, tI a1, tI a2, tI a3, tI a4] [tI b0, tI b1, tI b2, tI b3, tI b4] <;> rfl)
 ·simp only [tAt0, tAt1, tAt2, iT_im, bT_im, rT_sl, okT_i, okT_b, okT_s, slT_sl, le_0, Bool.and_true, Bool.true_and, cond_true, cond_false, lt_len']
theorem b_toMsgSS {rs : List (List T)} (h : pTo [.sl kMsg] rs = true) : body lp0 ET19 42 [.c (.sl .ro 1 rs)] [] = some (.ret ⟨[.c (.sl .own 1 (sOwn rs))], [], []⟩) := by
 rw [nf_42]
 have h' := h
 rw [pTo_eq] at h'
 simp only [Bool.and_eq_true, decide_eq_true_eq] at h'
 obtain ⟨⟨hs, hl⟩, hn⟩ := h'
 refine to_loop h rfl (fun i out hi ho => ?_) (fun out => ?_)
 ·obtain ⟨fa0, a0, hr, ga0⟩ := row_MsgS (shRs_get hs hi)
  have hl2 := lenRs_get hl hi
  rw [hr] at hl2
  simp only [lenR, lenT, Bool.and_eq_true, decide_eq_true_eq] at hl2
  have hk : sOkC [.sl 5] rs (i : Int).toNat 0 = true := okc_sh' hs hi
  have hca0 : sCell rs (i : Int).toNat 0 = .sl fa0 5 a0 := by rw [cell_at' hi, hr]; rfl
  have hp : pTo kMsg a0 = true := by rw [pTo_eq]; simp [ga0, hl2]
  simp only [tAt0, tAt1, tAt2, iT_im, bT_im, rT_sl, okT_i, okT_b, okT_s, slT_sl, le_0, Bool.and_true, Bool.true_and, cond_true, cond_false, lt_len hi, hk, hca0, hp, noRo_ownS, sOwn_eq, add1i (Nat.lt_of_lt_of_le hi (Nat.le_trans hn (by decide))), hr, ownR, ownT]
 ·simp only [tAt0, tAt1, tAt2, iT_im, bT_im, rT_sl, okT_i, okT_b, okT_s, slT_sl, le_0, Bool.and_true, Bool.true_and, cond_true, cond_false, lt_len']
theorem b_eqMsgSS {rs ss : List (List T)} (h : pEq [.sl kMsg] rs = true) (h' : pEq [.sl kMsg] ss = true) : body lp0 ET36 52 [.c (.sl .ro 1 rs), .c (.sl .ro 1 ss)] [] = some (.ret (oB (sEqS rs ss))) := by
 rw [nf_52]
 rw [pEq_eq] at h h'
 simp only [Bool.and_eq_true, decide_eq_true_eq] at h h'
 obtain ⟨⟨hs, hl⟩, hn⟩ := h
 obtain ⟨⟨hs', hl'⟩, hn'⟩ := h'
 refine eq_loop (fun i hi hi' => ?_) ?_
 ·obtain ⟨fa0, a0, hr, ga0⟩ := row_MsgS (shRs_get hs hi)
  obtain ⟨fb0, b0, hr', gb0⟩ := row_MsgS (shRs_get hs' hi')
  have hl2 := lenRs_get hl hi
  rw [hr] at hl2
  have hl2' := lenRs_get hl' hi'
  rw [hr'] at hl2'
  simp only [lenR, lenT, Bool.and_eq_true, decide_eq_true_eq] at hl2 hl2'
  have hk : sOkC [.sl 5] rs (i : Int).toNat 0 = true := okc_sh' hs hi
  have hk' : sOkC [.sl 5] ss (i : Int).toNat 0 = true := okc_sh' hs' hi'
  have hca0 : sCell rs (i : Int).toNat 0 = .sl fa0 5 a0 := by rw [cell_at' hi, hr]; rfl
  have hcb0 : sCell ss (i : Int).toNat 0 = .sl fb0 5 b0 := by rw [cell_at' hi', hr']; rfl
  have hp : pEq kMsg a0 = true := by rw [pEq_eq]; simp [ga0, hl2]
  have hp' : pEq kMsg b0 = true := by rw [pEq_eq]; simp [gb0, hl2']
  have he : sEqR rs[i] ss[i] = sEqS a0 b0 := by rw [hr, hr']; exact sEqR_sl _ _ _ _ _
  rw [he]
  simp only [tAt0, tAt1, tAt2, iT_im, bT_im, rT_sl, okT_i, okT_b, okT_s, slT_sl, le_0, Bool.and_true, Bool.true_and, cond_true, cond_false, lt_len hi, lt_len hi', hk, hk', hca0, hcb0, hp, hp', add1i (Nat.lt_of_lt_of_le hi hn)] <;> (cases sEqS a0 b0 <;> rfl)
 ·simp only [tAt0, tAt1, tAt2, iT_im, bT_im, rT_sl, okT_i, okT_b, okT_s, slT_sl, le_0, Bool.and_true, Bool.true_and, cond_true, cond_false, lt_len']
theorem b_toAggS {rs : List (List T)} (h : pTo kAggT rs = true) : body lp0 ET21 44 [.c (.sl .ro 6 rs)] [] = some (.ret ⟨[.c (.sl .own 6 (sOwn rs))], [], []⟩) := by
 rw [nf_44]
 have h' := h
 rw [pTo_eq] at h'
 simp only [Bool.and_eq_true, decide_eq_true_eq] at h'
 obtain ⟨⟨hs, hl⟩, hn⟩ := h'
 refine to_loop h rfl (fun i out hi ho => ?_) (fun out => ?_)
 ·obtain ⟨a0, a1, a2, a3, a4, a5, hr, _⟩ := row_Agg (shRs_get hs hi)
  have hl2 := lenRs_get hl hi
  rw [hr] at hl2
  simp only [lenR, lenT, Bool.and_eq_true, decide_eq_true_eq] at hl2
  have hk : sOkC [.int .i64, .int .i64, .int .i64, .int .i64, .int .i64, .int .i64] rs (i : Int).toNat 0 = true := okc_sh' hs hi
  have hca0 : sCell rs (i : Int).toNat 0 = tI a0 := by rw [cell_at' hi, hr]; rfl
  have hca1 : sCell rs (i : Int).toNat 1 = tI a1 := by rw [cell_at' hi, hr]; rfl
  have hca2 : sCell rs (i : Int).toNat 2 = tI a2 := by rw [cell_at' hi, hr]; rfl
  have hca3 : sCell rs (i : Int).toNat 3 = tI a3 := by rw [cell_at' hi, hr]; rfl
  have hca4 : sCell rs (i : Int).toNat 4 = tI a4 := by rw [cell_at' hi, hr]; rfl
  have hca5 : sCell rs (i : Int).toNat 5 = tI a5 := by rw [cell_at' hi, hr]; rfl
  have hp : pToR kAggT [tI a0, tI a1, tI a2, tI a3, tI a4, tI a5] = true := by rw [pToR_eq]; simp [shR, shT, lenR, lenT, hl2]
  simp only [tAt0, tAt1, tAt2, iT_im, bT_im, rT_sl, okT_i, okT_b, okT_s, slT_sl, le_0, Bool.and_true, Bool.true_and, cond_true, cond_false, lt_len hi, hk, hca0, hca1, hca2, hca3, hca4, hca5, hp, noRo_ownS, sOwn_eq, add1i (Nat.lt_of_lt_of_le hi (Nat.le_trans hn (by decide))), hr, ownR, ownT]
 ·simp only [tAt0, tAt1, tAt2, iT_im, bT_im, rT_sl, okT_i, okT_b, okT_s, slT_sl, le_0, Bool.and_true, Bool.true_and, cond_true, cond_false, lt_len']
theorem b_eqAggS {rs ss : List (List T)} (h : pEq kAggT rs = true) (h' : pEq kAggT ss = true) : body lp0 ET38 54 [.c (.sl .ro 6 rs), .c (.sl .ro 6 ss)] [] = some (.ret (oB (sEqS rs ss))) := by
 rw [nf_54]
 rw [pEq_eq] at h h'
 simp only [Bool.and_eq_true, decide_eq_true_eq] at h h'
 obtain ⟨⟨hs, hl⟩, hn⟩ := h
 obtain ⟨⟨hs', hl'⟩, hn'⟩ := h'
 refine eq_loop (fun i hi hi' => ?_) ?_
 ·obtain ⟨a0, a1, a2, a3, a4, a5, hr, _⟩ := row_Agg (shRs_get hs hi)
  obtain ⟨b0, b1, b2, b3, b4, b5, hr', _⟩ := row_Agg (shRs_get hs' hi')
  have hl2 := lenRs_get hl hi
  rw [hr] at hl2
  have hl2' := lenRs_get hl' hi'
  rw [hr'] at hl2'
  simp only [lenR, lenT, Bool.and_eq_true, decide_eq_true_eq] at hl2 hl2'
  have hk : sOkC [.int .i64, .int .i64, .int .i64, .int .i64, .int .i64, .int .i64] rs (i : Int).toNat 0 = true := okc_sh' hs hi
  have hk' : sOkC [.int .i64, .int .i64, .int .i64, .int .i64, .int .i64, .int .i64] ss (i : Int).toNat 0 = true := okc_sh' hs' hi'
  have hca0 : sCell rs (i : Int).toNat 0 = tI a0 := by rw [cell_at' hi, hr]; rfl
  have hca1 : sCell rs (i : Int).toNat 1 = tI a1 := by rw [cell_at' hi, hr]; rfl
  have hca2 : sCell rs (i : Int).toNat 2 = tI a2 := by rw [cell_at' hi, hr]; rfl
  have hca3 : sCell rs (i : Int).toNat 3 = tI a3 := by rw [cell_at' hi, hr]; rfl
  have hca4 : sCell rs (i : Int).toNat 4 = tI a4 := by rw [cell_at' hi, hr]; rfl
  have hca5 : sCell rs (i : Int).toNat 5 = tI a5 := by rw [cell_at' hi, hr]; rfl
  have hcb0 : sCell ss (i : Int).toNat 0 = tI b0 := by rw [cell_at' hi', hr']; rfl
  have hcb1 : sCell ss (i : Int).toNat 1 = tI b1 := by rw [cell_at' hi', hr']; rfl
  have hcb2 : sCell ss (i : Int).toNat 2 = tI b2 := by rw [cell_at' hi', hr']; rfl
  have hcb3 : sCell ss (i : Int).toNat 3 = tI b3 := by rw [cell_at' hi', hr']; rfl
  have hcb4 : sCell ss (i : Int).toNat 4 = tI b4 := by rw [cell_at' hi', hr']; rfl
  have hcb5 : sCell ss (i : Int).toNat 5 = tI b5 := by rw [cell_at' hi', hr']; rfl
  have hp : pEqR kAggT [tI a0, tI a1, tI a2, tI a3, tI a4, tI a5] = true := by rw [pEqR_eq]; simp [shR, shT, lenR, lenT, hl2]
  have hp' : pEqR kAggT [tI b0, tI b1, tI b2, tI b3, tI b4, tI b5] = true := by rw [pEqR_eq]; simp [shR, shT, lenR, lenT, hl2']
  have he : sEqR rs[i] ss[i] = sEqR [tI a0, tI a1, tI a2, tI a3, tI a4, tI a5] [tI b0, tI b1, tI b2, tI b3, tI b4, tI b5] := by rw [hr, hr']
  rw [he]
  simp only [tAt0, tAt1, tAt2, iT_im, bT_im, rT_sl, okT_i, okT_b, okT_s, slT_sl, le_0, Bool.and_true, Bool.true_and, cond_true, cond_false, lt_len hi, lt_len hi', hk, hk', hca0, hca1, hca2, hca3, hca4, hca5, hcb0, hcb1, hcb2, hcb3, hcb4, hcb5, hp, hp', add1i (Nat.lt_of_lt_of_le hi hn)] <;> (cases sEqR [tI a0, tI a1, tI a2, tI a3, tI a4, tI a5] [tI b0, tI b1, tI b2, tI b3, tI b4, tI b5] <;> rfl)
 ·simp only [tAt0, tAt1, tAt2, iT_im, bT_im, rT_sl, okT_i, okT_b, okT_s, slT_sl, le_0, Bool.and_true, Bool.true_and, cond_true, cond_false, lt_len']
theorem b_toShardS {rs : List (List T)} (h : pTo kShard rs = true) : body lp0 ET23 43 [.c (.sl .ro 4 rs)] [] = some (.ret ⟨[.c (.sl .own 4 (sOwn rs))], [], []⟩) := by
 rw [nf_43]
 have h' := h
 rw [pTo_eq] at h'
 simp only [Bool.and_eq_true, decide_eq_true_eq] at h'
 obtain ⟨⟨hs, hl⟩, hn⟩ := h'
 refine to_loop h rfl (fun i out hi ho => ?_) (fun out => ?_)
 ·obtain ⟨fa0, a0, a1, a2, a3, hr, ga0⟩ := row_Shard (shRs_get hs hi)
  have hl2 := lenRs_get hl hi
  rw [hr] at hl2
  simp only [lenR, lenT, Bool.and_eq_true, decide_eq_true_eq] at hl2
  have hk : sOkC [.sl 6, .int .i64, .int .i64, .int .i64] rs (i : Int).toNat 0 = true := okc_sh' hs hi
  have hca0 : sCell rs (i : Int).toNat 0 = .sl fa0 6 a0 := by rw [cell_at' hi, hr]; rfl
  have hca1 : sCell rs (i : Int).toNat 1 = tI a1 := by rw [cell_at' hi, hr]; rfl
  have hca2 : sCell rs (i : Int).toNat 2 = tI a2 := by rw [cell_at' hi, hr]; rfl
  have hca3 : sCell rs (i : Int).toNat 3 = tI a3 := by rw [cell_at' hi, hr]; rfl
  have hp : pToR kShard [.sl .ro 6 a0, tI a1, tI a2, tI a3] = true := by rw [pToR_eq]; simp [shR, shT, lenR, lenT, hl2, ga0]
  simp only [tAt0, tAt1, tAt2, iT_im, bT_im, rT_sl, okT_i, okT_b, okT_s, slT_sl, le_0, Bool.and_true, Bool.true_and, cond_true, cond_false, lt_len hi, hk, hca0, hca1, hca2, hca3, hp, noRo_ownS, sOwn_eq, add1i (Nat.lt_of_lt_of_le hi (Nat.le_trans hn (by decide))), hr, ownR, ownT]
 ·simp only [tAt0, tAt1, tAt2, iT_im, bT_im, rT_sl, okT_i, okT_b, okT_s, slT_sl, le_0, Bool.and_true, Bool.true_and, cond_true, cond_false, lt_len']
theorem b_eqShardS {rs ss : List (List T)} (h : pEq kShard rs = true) (h' : pEq kShard ss = true) : body lp0 ET40 53 [.c (.sl .ro 4 rs), .c (.sl .ro 4 ss)] [] = some (.ret (oB (sEqS rs ss))) := by
 rw [nf_53]
 rw [pEq_eq] at h h'
 simp only [Bool.and_eq_true, decide_eq_true_eq] at h h'
 obtain ⟨⟨hs, hl⟩, hn⟩ := h
 obtain ⟨⟨hs', hl'⟩, hn'⟩ := h'
 refine eq_loop (fun i hi hi' => ?_) ?_
 ·obtain ⟨fa0, a0, a1, a2, a3, hr, ga0⟩ := row_Shard (shRs_get hs hi)
  obtain ⟨fb0, b0, b1, b2, b3, hr', gb0⟩ := row_Shard (shRs_get hs' hi')
  have hl2 := lenRs_get hl hi
  rw [hr] at hl2
  have hl2' := lenRs_get hl' hi'
  rw [hr'] at hl2'
  simp only [lenR, lenT, Bool.and_eq_true, decide_eq_true_eq] at hl2 hl2'
  have hk : sOkC [.sl 6, .int .i64, .int .i64, .int .i64] rs (i : Int).toNat 0 = true := okc_sh' hs hi
  have hk' : sOkC [.sl 6, .int .i64, .int .i64, .int .i64] ss (i : Int).toNat 0 = true := okc_sh' hs' hi'
  have hca0 : sCell rs (i : Int).toNat 0 = .sl fa0 6 a0 := by rw [cell_at' hi, hr]; rfl
  have hca1 : sCell rs (i : Int).toNat 1 = tI a1 := by rw [cell_at' hi, hr]; rfl
  have hca2 : sCell rs (i : Int).toNat 2 = tI a2 := by rw [cell_at' hi, hr]; rfl
  have hca3 : sCell rs (i : Int).toNat 3 = tI a3 := by rw [cell_at' hi, hr]; rfl
  have hcb0 : sCell ss (i : Int).toNat 0 = .sl fb0 6 b0 := by rw [cell_at' hi', hr']; rfl
  have hcb1 : sCell ss (i : Int).toNat 1 = tI b1 := by rw [cell_at' hi', hr']; rfl
  have hcb2 : sCell ss (i : Int).toNat 2 = tI b2 := by rw [cell_at' hi', hr']; rfl
  have hcb3 : sCell ss (i : Int).toNat 3 = tI b3 := by rw [cell_at' hi', hr']; rfl
  have hp : pEqR kShard [.sl .ro 6 a0, tI a1, tI a2, tI a3] = true := by rw [pEqR_eq]; simp [shR, shT, lenR, lenT, hl2, ga0]
  have hp' : pEqR kShard [.sl .ro 6 b0, tI b1, tI b2, tI b3] = true := by rw [pEqR_eq]; simp [shR, shT, lenR, lenT, hl2', gb0]
  have he : sEqR rs[i] ss[i] = sEqR [.sl .ro 6 a0, tI a1, tI a2, tI a3] [.sl .ro 6 b0, tI b1, tI b2, tI b3] := by rw [hr, hr']; exact sEqR_ro (by simp [ownR, ownT]) (by simp [ownR, ownT])
  rw [he]
  simp only [tAt0, tAt1, tAt2, iT_im, bT_im, rT_sl, okT_i, okT_b, okT_s, slT_sl, le_0, Bool.and_true, Bool.true_and, cond_true, cond_false, lt_len hi, lt_len hi', hk, hk', hca0, hca1, hca2, hca3, hcb0, hcb1, hcb2, hcb3, hp, hp', add1i (Nat.lt_of_lt_of_le hi hn)] <;> (cases sEqR [.sl .ro 6 a0, tI a1, tI a2, tI a3] [.sl .ro 6 b0, tI b1, tI b2, tI b3] <;> rfl)
 ·simp only [tAt0, tAt1, tAt2, iT_im, bT_im, rT_sl, okT_i, okT_b, okT_s, slT_sl, le_0, Bool.and_true, Bool.true_and, cond_true, cond_false, lt_len']
theorem b_toIntS {rs : List (List T)} (h : pTo [kI] rs = true) : body lp0 ET24 45 [.c (.sl .ro 1 rs)] [] = some (.ret ⟨[.c (.sl .own 1 (sOwn rs))], [], []⟩) := by
 rw [nf_45]
 have h' := h
 rw [pTo_eq] at h'
 simp only [Bool.and_eq_true, decide_eq_true_eq] at h'
 obtain ⟨⟨hs, hl⟩, hn⟩ := h'
 refine to_loop h rfl (fun i out hi ho => ?_) (fun out => ?_)
 ·obtain ⟨a0, hr, _⟩ := row_Int (shRs_get hs hi)
  have hl2 := lenRs_get hl hi
  rw [hr] at hl2
  simp only [lenR, lenT, Bool.and_eq_true, decide_eq_true_eq] at hl2
  have hk : sOkC [.int .i64] rs (i : Int).toNat 0 = true := okc_sh' hs hi
  have hca0 : sCell rs (i : Int).toNat 0 = tI a0 := by rw [cell_at' hi, hr]; rfl
  simp only [tAt0, tAt1, tAt2, iT_im, bT_im, rT_sl, okT_i, okT_b, okT_s, slT_sl, le_0, Bool.and_true, Bool.true_and, cond_true, cond_false, lt_len hi, hk, hca0, noRo_ownS, sOwn_eq, add1i (Nat.lt_of_lt_of_le hi (Nat.le_trans hn (by decide))), hr, ownR, ownT]
 ·simp only [tAt0, tAt1, tAt2, iT_im, bT_im, rT_sl, okT_i, okT_b, okT_s, slT_sl, le_0, Bool.and_true, Bool.true_and, cond_true, cond_false, lt_len']
theorem b_eqIntS {rs ss : List (List T)} (h : pEq [kI] rs = true) (h' : pEq [kI] ss = true) : body lp0 ET41 55 [.c (.sl .ro 1 rs), .c (.sl .ro 1 ss)] [] = some (.ret (oB (sEqS rs ss))) := by
 rw [nf_55]
 rw [pEq_eq] at h h'
 simp only [Bool.and_eq_true, decide_eq_true_eq] at h h'
 obtain ⟨⟨hs, hl⟩, hn⟩ := h
 obtain ⟨⟨hs', hl'⟩, hn'⟩ := h'
 refine eq_loop (fun i hi hi' => ?_) ?_
 ·obtain ⟨a0, hr, _⟩ := row_Int (shRs_get hs hi)
  obtain ⟨b0, hr', _⟩ := row_Int (shRs_get hs' hi')
  have hl2 := lenRs_get hl hi
  rw [hr] at hl2
  have hl2' := lenRs_get hl' hi'
  rw [hr'] at hl2'
  simp only [lenR, lenT, Bool.and_eq_true, decide_eq_true_eq] at hl2 hl2'
  have hk : sOkC [.int .i64] rs (i : Int).toNat 0 = true := okc_sh' hs hi
  have hk' : sOkC [.int .i64] ss (i : Int).toNat 0 = true := okc_sh' hs' hi'
  have hca0 : sCell rs (i : Int).toNat 0 = tI a0 := by rw [cell_at' hi, hr]; rfl
  have hcb0 : sCell ss (i : Int).toNat 0 = tI b0 := by rw [cell_at' hi', hr']; rfl
  have he : sEqR rs[i] ss[i] = sEq a0 b0 := by rw [hr, hr']; exact sEqR_int _ _ _
  rw [he]
  simp only [tAt0, tAt1, tAt2, iT_im, bT_im, rT_sl, okT_i, okT_b, okT_s, slT_sl, le_0, Bool.and_true, Bool.true_and, cond_true, cond_false, lt_len hi, lt_len hi', hk, hk', hca0, hcb0, add1i (Nat.lt_of_lt_of_le hi hn)] <;> (cases sEq a0 b0 <;> rfl)
 ·simp only [tAt0, tAt1, tAt2, iT_im, bT_im, rT_sl, okT_i, okT_b, okT_s, slT_sl, le_0, Bool.and_true, Bool.true_and, cond_true, cond_false, lt_len']
theorem b_szByteS {rs : List (List T)} {n : Int} (h : pSz [kB] rs n = true) : body lp0 ET0 109 [.c (.sl .ro 1 rs), aI n] [] = some (.ret (oI (sSz rs n))) := by
 rw [nf_109]
 exact sz_flat rfl h
theorem b_szMsgS {rs : List (List T)} {n : Int} (h : pSz kMsg rs n = true) : body lp0 ET4 32 [.c (.sl .ro 5 rs), aI n] [] = some (.ret (oI (sSz rs n))) := by
 rw [nf_32]
 exact sz_flat rfl h
theorem b_szAggS {rs : List (List T)} {n : Int} (h : pSz kAggT rs n = true) : body lp0 ET6 35 [.c (.sl .ro 6 rs), aI n] [] = some (.ret (oI (sSz rs n))) := by
 rw [nf_35]
 exact sz_flat rfl h
theorem b_szIntS {rs : List (List T)} {n : Int} (h : pSz [kI] rs n = true) : body lp0 ET9 36 [.c (.sl .ro 1 rs), aI n] [] = some (.ret (oI (sSz rs n))) := by
 rw [nf_36]
 exact sz_flat rfl h
theorem b_szConnS {rs : List (List T)} {n : Int} (h : pSz kConn rs n = true) : body lp0 ET3 31 [.c (.sl .ro 7 rs), aI n] [] = some (.ret (oI (sSz rs n))) := by
 rw [nf_31]
 have h' := h
 rw [pSz_eq] at h'
 simp only [Bool.and_eq_true, decide_eq_true_eq] at h'
 obtain ⟨⟨⟨⟨hs, hl⟩, hn⟩, _⟩, _⟩ := h'
 refine sz_loop h (fun i m hi h0 h1 => ?_) (fun m => ?_)
 ·obtain ⟨fa0, a0, a1, a2, a3, a4, a5, a6, hr, ga0⟩ := row_Conn (shRs_get hs hi)
  have hl2 := lenRs_get hl hi
  rw [hr] at hl2
  simp only [lenR, lenT, Bool.and_eq_true, decide_eq_true_eq] at hl2
  have hk : sOkC [.sl 1, .bool, .int .i64, .int .i64, .int .i64, .bool, .bool] rs (i : Int).toNat 0 = true := okc_sh' hs hi
  have hca0 : sCell rs (i : Int).toNat 0 = .sl fa0 1 a0 := by rw [cell_at' hi, hr]; rfl
  have hca1 : sCell rs (i : Int).toNat 1 = tB a1 := by rw [cell_at' hi, hr]; rfl
  have hca2 : sCell rs (i : Int).toNat 2 = tI a2 := by rw [cell_at' hi, hr]; rfl
  have hca3 : sCell rs (i : Int).toNat 3 = tI a3 := by rw [cell_at' hi, hr]; rfl
  have hca4 : sCell rs (i : Int).toNat 4 = tI a4 := by rw [cell_at' hi, hr]; rfl
  have hca5 : sCell rs (i : Int).toNat 5 = tB a5 := by rw [cell_at' hi, hr]; rfl
  have hca6 : sCell rs (i : Int).toNat 6 = tB a6 := by rw [cell_at' hi, hr]; rfl
  have hp : pSzR kConn [.sl .ro 1 a0, tB a1, tI a2, tI a3, tI a4, tB a5, tB a6] m = true := by rw [pSzR_eq]; simp [shR, shT, lenR, lenT, hl2, h0, h1, ga0]
  have he : sSzR [.sl .ro 1 a0, tB a1, tI a2, tI a3, tI a4, tB a5, tB a6] m = szR rs[i] m := by rw [sSzR_eq, hr]; exact szR_fl _ _ _ _ _ _ _
  simp only [tAt0, tAt1, tAt2, iT_im, bT_im, rT_sl, okT_i, okT_b, okT_s, slT_sl, le_0, Bool.and_true, Bool.true_and, cond_true, cond_false, lt_len hi, hk, hca0, hca1, hca2, hca3, hca4, hca5, hca6, hp, he, sLt_eq, add1i (Nat.lt_of_lt_of_le hi hn)]
  by_cases hc : szR rs[i] m < 0
  ·rw [decide_eq_true hc, if_pos hc]; rfl
  ·rw [decide_eq_false hc, if_neg hc]; rfl
 ·simp only [tAt0, tAt1, tAt2, iT_im, bT_im, rT_sl, okT_i, okT_b, okT_s, slT_sl, le_0, Bool.and_true, Bool.true_and, cond_true, cond_false, lt_len']
theorem b_szMsgSS {rs : List (List T)} {n : Int} (h : pSz [.sl kMsg] rs n = true) : body lp0 ET5 33 [.c (.sl .ro 1 rs), aI n] [] = some (.ret (oI (sSz rs n))) := by
 rw [nf_33]
 have h' := h
 rw [pSz_eq] at h'
 simp only [Bool.and_eq_true, decide_eq_true_eq] at h'
 obtain ⟨⟨⟨⟨hs, hl⟩, hn⟩, _⟩, _⟩ := h'
 refine sz_loop h (fun i m hi h0 h1 => ?_) (fun m => ?_)
 ·obtain ⟨fa0, a0, hr, ga0⟩ := row_MsgS (shRs_get hs hi)
  have hl2 := lenRs_get hl hi
  rw [hr] at hl2
  simp only [lenR, lenT, Bool.and_eq_true, decide_eq_true_eq] at hl2
  have hk : sOkC [.sl 5] rs (i : Int).toNat 0 = true := okc_sh' hs hi
  have hca0 : sCell rs (i : Int).toNat 0 = .sl fa0 5 a0 := by rw [cell_at' hi, hr]; rfl
  have hp : pSz kMsg a0 m = true := by rw [pSz_eq]; simp [ga0, hl2, h0, h1]
  have he : sSz a0 m = szR rs[i] m := by rw [hr, szR_one h0]
  simp only [tAt0, tAt1, tAt2, iT_im, bT_im, rT_sl, okT_i, okT_b, okT_s, slT_sl, le_0, Bool.and_true, Bool.true_and, cond_true, cond_false, lt_len hi, hk, hca0, hp, he, sLt_eq, add1i (Nat.lt_of_lt_of_le hi hn)]
  by_cases hc : szR rs[i] m < 0
  ·rw [decide_eq_true hc, if_pos hc]; rfl
  ·rw [decide_eq_false hc, if_neg hc]; rfl
 ·simp only [tAt0, tAt1, tAt2, iT_im, bT_im, rT_sl, okT_i, okT_b, okT_s, slT_sl, le_0, Bool.and_true, Bool.true_and, cond_true, cond_false, lt_len']
theorem b_szShardS {rs : List (List T)} {n : Int} (h : pSz kShard rs n = true) : body lp0 ET8 34 [.c (.sl .ro 4 rs), aI n] [] = some (.ret (oI (sSz rs n))) := by
 rw [nf_34]
 have h' := h
 rw [pSz_eq] at h'
 simp only [Bool.and_eq_true, decide_eq_true_eq] at h'
 obtain ⟨⟨⟨⟨hs, hl⟩, hn⟩, _⟩, _⟩ := h'
 refine sz_loop h (fun i m hi h0 h1 => ?_) (fun m => ?_)
 ·obtain ⟨fa0, a0, a1, a2, a3, hr, ga0⟩ := row_Shard (shRs_get hs hi)
  have hl2 := lenRs_get hl hi
  rw [hr] at hl2
  simp only [lenR, lenT, Bool.and_eq_true, decide_eq_true_eq] at hl2
  have hk : sOkC [.sl 6, .int .i64, .int .i64, .int .i64] rs (i : Int).toNat 0 = true := okc_sh' hs hi
  have hca0 : sCell rs (i : Int).toNat 0 = .sl fa0 6 a0 := by rw [cell_at' hi, hr]; rfl
  have hca1 : sCell rs (i : Int).toNat 1 = tI a1 := by rw [cell_at' hi, hr]; rfl
  have hca2 : sCell rs (i : Int).toNat 2 = tI a2 := by rw [cell_at' hi, hr]; rfl
  have hca3 : sCell rs (i : Int).toNat 3 = tI a3 := by rw [cell_at' hi, hr]; rfl
  have hp : pSzR kShard [.sl .ro 6 a0, tI a1, tI a2, tI a3] m = true := by rw [pSzR_eq]; simp [shR, shT, lenR, lenT, hl2, h0, h1, ga0]
  have he : sSzR [.sl .ro 6 a0, tI a1, tI a2, tI a3] m = szR rs[i] m := by rw [sSzR_eq, hr]; exact szR_fl _ _ _ _ _ _ _
  simp only [tAt0, tAt1, tAt2, iT_im, bT_im, rT_sl, okT_i, okT_b, okT_s, slT_sl, le_0, Bool.and_true, Bool.true_and, cond_true, cond_false, lt_len hi, hk, hca0, hca1, hca2, hca3, hp, he, sLt_eq, add1i (Nat.lt_of_lt_of_le hi hn)]
  by_cases hc : szR rs[i] m < 0
  ·rw [decide_eq_true hc, if_pos hc]; rfl
  ·rw [decide_eq_false hc, if_neg hc]; rfl
 ·simp only [tAt0, tAt1, tAt2, iT_im, bT_im, rT_sl, okT_i, okT_b, okT_s, slT_sl, le_0, Bool.and_true, Bool.true_and, cond_true, cond_false, lt_len']
theorem b_szDecoder {ts : List T} {n : Int} (hr : ts.all roT = true) (h : pSzR kDecoder ts n = true) : body lp0 ET1 90 [.ag ts, aI n] [] = some (.ret (oI (sSzR ts n))) := by
 rw [pSzR_eq] at h
 simp only [Bool.and_eq_true, decide_eq_true_eq] at h
 obtain ⟨⟨⟨hs, hl⟩, h0⟩, h1⟩ := h
 obtain ⟨a0, a1, rfl, ga0⟩ := rowr_Decoder hs hr
 simp only [lenR, lenT, Bool.and_eq_true, decide_eq_true_eq] at hl
 rw [nf_90]
 rw [sSzR_eq]
 refine sz_step ga0 ⟨hl.1.1, hl.1.2⟩ h0 h1 (fun h2 h3 => ?_)
 rw [szR_im h2, szR_nil]
theorem b_szConn {ts : List T} {n : Int} (hr : ts.all roT = true) (h : pSzR kConn ts n = true) : body lp0 ET2 69 [.ag ts, aI n] [] = some (.ret (oI (sSzR ts n))) := by
 rw [pSzR_eq] at h
 simp only [Bool.and_eq_true, decide_eq_true_eq] at h
 obtain ⟨⟨⟨hs, hl⟩, h0⟩, h1⟩ := h
 obtain ⟨a0, a1, a2, a3, a4, a5, a6, rfl, ga0⟩ := rowr_Conn hs hr
 simp only [lenR, lenT, Bool.and_eq_true, decide_eq_true_eq] at hl
 rw [nf_69]
 have hp : pSzR kDecoder [.sl .ro 1 a0, tB a1] n = true := by rw [pSzR_eq]; simp [shR, shT, lenR, lenT, ga0, hl, h0, h1]
 have e1 : sSzR [.sl .ro 1 a0, tB a1] n = sSz a0 n := by rw [sSzR_eq]; exact szR_slim (vs := [.bool a1]) h0
 have e2 : sSzR [.sl .ro 1 a0, tB a1, tI a2, tI a3, tI a4, tB a5, tB a6] n = sSz a0 n := by rw [sSzR_eq]; exact szR_slim (vs := [.bool a1, .int .i64 a2, .int .i64 a3, .int .i64 a4, .bool a5, .bool a6]) h0
 have := szS_le (rs := a0) h0
 rw [hp, e1, e2, cond_true, sLt_eq]
 by_cases hc : sSz a0 n < 0
 ·rw [decide_eq_true hc, show sSz a0 n = -1 by omega]; rfl
 ·rw [decide_eq_false hc]; rfl
theorem b_szShard {ts : List T} {n : Int} (hr : ts.all roT = true) (h : pSzR kShard ts n = true) : body lp0 ET7 70 [.ag ts, aI n] [] = some (.ret (oI (sSzR ts n))) := by
 rw [pSzR_eq] at h
 simp only [Bool.and_eq_true, decide_eq_true_eq] at h
 obtain ⟨⟨⟨hs, hl⟩, h0⟩, h1⟩ := h
 obtain ⟨a0, a1, a2, a3, rfl, ga0⟩ := rowr_Shard hs hr
 simp only [lenR, lenT, Bool.and_eq_true, decide_eq_true_eq] at hl
 rw [nf_70]
 rw [sSzR_eq]
 refine sz_step ga0 ⟨hl.1.1, hl.1.2⟩ h0 h1 (fun h2 h3 => ?_)
 rw [szR_im h2, szR_im h2, szR_im h2, szR_nil]
theorem b_szEngine {ts : List T} {n : Int} (hr : ts.all roT = true) (h : pSzR kEngine ts n = true) : body lp0 ET10 10 [.ag ts, aI n] [] = some (.ret (oI (sSzR ts n))) := by
 rw [pSzR_eq] at h
 simp only [Bool.and_eq_true, decide_eq_true_eq] at h
 obtain ⟨⟨⟨hs, hl⟩, h0⟩, h1⟩ := h
 obtain ⟨a0, a1, a2, a3, a4, a5, a6, a7, a8, a9, a10, a11, a12, a13, a14, a15, a16, a17, a18, a19, a20, a21, a22, a23, rfl, ga11, ga12, ga13, ga14, ga15, ga17⟩ := rowr_Engine hs hr
 simp only [lenR, lenT, Bool.and_eq_true, decide_eq_true_eq] at hl
 rw [nf_10]
 rw [sSzR_eq, szR_im h0, szR_im h0, szR_im h0, szR_im h0, szR_im h0, szR_im h0, szR_im h0, szR_im h0, szR_im h0, szR_im h0, szR_im h0]
 simp only [and_assoc] at hl
 have hL : ∀ {x : List (List T)}, (x = a11 ∨ x = a12 ∨ x = a13 ∨ x = a14 ∨ x = a15 ∨ x = a17) → x.length ≤ reachBytes ∧ lenRs reachBytes x = true := by rintro x (rfl | rfl | rfl | rfl | rfl | rfl) <;> simp [hl]
 refine sz_step ga11 (hL (by simp)) h0 h1 (fun h2 h3 => ?_)
 refine sz_step ga12 (hL (by simp)) h2 h3 (fun h4 h5 => ?_)
 refine sz_step ga13 (hL (by simp)) h4 h5 (fun h6 h7 => ?_)
 refine sz_step ga14 (hL (by simp)) h6 h7 (fun h8 h9 => ?_)
 refine sz_step ga15 (hL (by simp)) h8 h9 (fun hA hB => ?_)
 rw [szR_im hA]
 refine sz_step ga17 (hL (by simp)) hA hB (fun hC hD => ?_)
 rw [szR_im hC, szR_im hC, szR_im hC, szR_im hC, szR_im hC, szR_im hC, szR_nil]
theorem good0 : Good Go.Proofs.Tryd.prog md0 (fun _ => .own) TL0 := .nil
theorem good1 : Good Go.Proofs.Tryd.prog md0 (fun _ => .own) TL1 := good_szS (fun h => b_szByteS h) good0
theorem good2 : Good Go.Proofs.Tryd.prog md0 (fun _ => .own) TL2 := good_szR (fun h h1 => b_szDecoder h h1) good1
theorem good3 : Good Go.Proofs.Tryd.prog md0 (fun _ => .own) TL3 := good_szR (fun h h1 => b_szConn h h1) good2
theorem good4 : Good Go.Proofs.Tryd.prog md0 (fun _ => .own) TL4 := good_szS (fun h => b_szConnS h) good3
theorem good5 : Good Go.Proofs.Tryd.prog md0 (fun _ => .own) TL5 := good_szS (fun h => b_szMsgS h) good4
theorem good6 : Good Go.Proofs.Tryd.prog md0 (fun _ => .own) TL6 := good_szS (fun h => b_szMsgSS h) good5
theorem good7 : Good Go.Proofs.Tryd.prog md0 (fun _ => .own) TL7 := good_szS (fun h => b_szAggS h) good6
theorem good8 : Good Go.Proofs.Tryd.prog md0 (fun _ => .own) TL8 := good_szR (fun h h1 => b_szShard h h1) good7
theorem good9 : Good Go.Proofs.Tryd.prog md0 (fun _ => .own) TL9 := good_szS (fun h => b_szShardS h) good8
theorem good10 : Good Go.Proofs.Tryd.prog md0 (fun _ => .own) TL10 := good_szS (fun h => b_szIntS h) good9
theorem good11 : Good Go.Proofs.Tryd.prog md0 (fun _ => .own) TL11 := good_szR (fun h h1 => b_szEngine h h1) good10
theorem good12 : Good Go.Proofs.Tryd.prog md0 (fun _ => .own) TL12 := good_toS (fun h => b_toByteS h) good11
theorem good13 : Good Go.Proofs.Tryd.prog md0 (fun _ => .own) TL13 := good_toR (fun h h1 => b_toDecoder h h1) good12
theorem good14 : Good Go.Proofs.Tryd.prog md0 (fun _ => .own) TL14 := good_toR (fun h h1 => b_toSource h h1) good13
theorem good15 : Good Go.Proofs.Tryd.prog md0 (fun _ => .own) TL15 := good_toR (fun h h1 => b_toConn h h1) good14
theorem good16 : Good Go.Proofs.Tryd.prog md0 (fun _ => .own) TL16 := good_toS (fun h => b_toConnS h) good15
theorem good17 : Good Go.Proofs.Tryd.prog md0 (fun _ => .own) TL17 := good_toR (fun h h1 => b_toFrame h h1) good16
theorem good18 : Good Go.Proofs.Tryd.prog md0 (fun _ => .own) TL18 := good_toR (fun h h1 => b_toMsg h h1) good17
theorem good19 : Good Go.Proofs.Tryd.prog md0 (fun _ => .own) TL19 := good_toS (fun h => b_toMsgS h) good18
theorem good20 : Good Go.Proofs.Tryd.prog md0 (fun _ => .own) TL20 := good_toS (fun h => b_toMsgSS h) good19
theorem good21 : Good Go.Proofs.Tryd.prog md0 (fun _ => .own) TL21 := good_toR (fun h h1 => b_toAgg h h1) good20
theorem good22 : Good Go.Proofs.Tryd.prog md0 (fun _ => .own) TL22 := good_toS (fun h => b_toAggS h) good21
theorem good23 : Good Go.Proofs.Tryd.prog md0 (fun _ => .own) TL23 := good_toR (fun h h1 => b_toShard h h1) good22
theorem good24 : Good Go.Proofs.Tryd.prog md0 (fun _ => .own) TL24 := good_toS (fun h => b_toShardS h) good23
theorem good25 : Good Go.Proofs.Tryd.prog md0 (fun _ => .own) TL25 := good_toS (fun h => b_toIntS h) good24
theorem good26 : Good Go.Proofs.Tryd.prog md0 (fun _ => .own) TL26 := good_toR (fun h h1 => b_toSetup h h1) good25
theorem good27 : Good Go.Proofs.Tryd.prog md0 (fun _ => .own) TL27 := good_toR (fun h h1 => b_toTally h h1) good26
theorem good28 : Good Go.Proofs.Tryd.prog md0 (fun _ => .own) TL28 := good_toR (fun h h1 => b_toEngine h h1) good27
theorem good29 : Good Go.Proofs.Tryd.prog md0 (fun _ => .own) TL29 := good_eqS (fun h h1 => b_eqByteS h h1) good28
theorem good30 : Good Go.Proofs.Tryd.prog md0 (fun _ => .own) TL30 := good_eqR (fun h h1 h2 h3 => b_eqDecoder h h1 h2 h3) good29
theorem good31 : Good Go.Proofs.Tryd.prog md0 (fun _ => .own) TL31 := good_eqR (fun h h1 h2 h3 => b_eqSource h h1 h2 h3) good30
theorem good32 : Good Go.Proofs.Tryd.prog md0 (fun _ => .own) TL32 := good_eqR (fun h h1 h2 h3 => b_eqConn h h1 h2 h3) good31
theorem good33 : Good Go.Proofs.Tryd.prog md0 (fun _ => .own) TL33 := good_eqS (fun h h1 => b_eqConnS h h1) good32
theorem good34 : Good Go.Proofs.Tryd.prog md0 (fun _ => .own) TL34 := good_eqR (fun h h1 h2 h3 => b_eqFrame h h1 h2 h3) good33
theorem good35 : Good Go.Proofs.Tryd.prog md0 (fun _ => .own) TL35 := good_eqR (fun h h1 h2 h3 => b_eqMsg h h1 h2 h3) good34
theorem good36 : Good Go.Proofs.Tryd.prog md0 (fun _ => .own) TL36 := good_eqS (fun h h1 => b_eqMsgS h h1) good35
theorem good37 : Good Go.Proofs.Tryd.prog md0 (fun _ => .own) TL37 := good_eqS (fun h h1 => b_eqMsgSS h h1) good36
theorem good38 : Good Go.Proofs.Tryd.prog md0 (fun _ => .own) TL38 := good_eqR (fun h h1 h2 h3 => b_eqAgg h h1 h2 h3) good37
theorem good39 : Good Go.Proofs.Tryd.prog md0 (fun _ => .own) TL39 := good_eqS (fun h h1 => b_eqAggS h h1) good38
theorem good40 : Good Go.Proofs.Tryd.prog md0 (fun _ => .own) TL40 := good_eqR (fun h h1 h2 h3 => b_eqShard h h1 h2 h3) good39
theorem good41 : Good Go.Proofs.Tryd.prog md0 (fun _ => .own) TL41 := good_eqS (fun h h1 => b_eqShardS h h1) good40
theorem good42 : Good Go.Proofs.Tryd.prog md0 (fun _ => .own) TL42 := good_eqS (fun h h1 => b_eqIntS h h1) good41
theorem good43 : Good Go.Proofs.Tryd.prog md0 (fun _ => .own) TL43 := good_eqR (fun h h1 h2 h3 => b_eqSetup h h1 h2 h3) good42
theorem good44 : Good Go.Proofs.Tryd.prog md0 (fun _ => .own) TL44 := good_eqR (fun h h1 h2 h3 => b_eqTally h h1 h2 h3) good43
theorem good45 : Good Go.Proofs.Tryd.prog md0 (fun _ => .own) TL45 := good_eqR (fun h h1 h2 h3 => b_eqEngine h h1 h2 h3) good44

end Go.Vm
