/- Each told function is what the machine comes to. No statement is proved here. -/
import Derived.Test.YtppcdaliielpgaaM3
import Derived.Test.YtppcdaliielpgaaA1
import Derived.Test.YtppcdaliielpgaaProg
import Derived.KernelRfl

section
set_option linter.unusedVariables false
namespace Go.Vsi
open Go.Proofs
def tis : List (Nat × TI) := [
(1, ⟨false, 1, 8, [.undef], none, none, []⟩),
(2, ⟨false, 1, 8, [.int .i64 0], some (.int .i64), none, []⟩),
(3, ⟨false, 1, 8, [.int .i64 0], some (.int .i64), none, []⟩),
(4, ⟨false, 1, 1, [.bool false], some (.bool), none, []⟩),
(5, ⟨false, 1, 1, [.int .u8 0], some (.int .u8), none, []⟩),
(6, ⟨false, 1, 1, [.int .u8 0], some (.int .u8), none, []⟩),
(7, ⟨true, 4, 24, [.int .i64 0, .int .i64 0, .bool false, .int .u8 0], some (.prod (.int .i64) (.prod (.int .i64) (.prod .bool (.int .u8)))), none, [(0, 2), (1, 3), (2, 4), (3, 6)]⟩),
(8, ⟨true, 4, 24, [.int .i64 0, .int .i64 0, .bool false, .int .u8 0], some (.prod (.int .i64) (.prod (.int .i64) (.prod .bool (.int .u8)))), none, [(0, 2), (1, 3), (2, 4), (3, 6)]⟩),
(9, ⟨false, 1, 16, [.str []], some (.str), none, []⟩),
(10, ⟨false, 1, 16, [.str []], some (.str), none, []⟩),
(11, ⟨false, 1, 16, [.str []], some (.str), none, []⟩),
(12, ⟨false, 1, 8, [.int .u64 0], some (.int .u64), none, []⟩),
(13, ⟨true, 2, 24, [.str [], .int .u64 0], some (.prod .str (.int .u64)), none, [(0, 9), (1, 12)]⟩),
(14, ⟨true, 2, 24, [.str [], .int .u64 0], some (.prod .str (.int .u64)), none, [(0, 9), (1, 12)]⟩),
(15, ⟨false, 1, 8, [.undef], none, none, []⟩),
(16, ⟨false, 1, 8, [.undef], none, none, []⟩),
(17, ⟨false, 1, 8, [.undef], none, none, []⟩),
(18, ⟨true, 1, 8, [.undef], none, none, [(0, 17)]⟩),
(19, ⟨true, 1, 8, [.undef], none, none, [(0, 17)]⟩),
(20, ⟨false, 1, 16, [.undef], none, none, []⟩),
(21, ⟨false, 1, 4, [.int .i32 0], some (.int .i32), none, []⟩),
(22, ⟨false, 1, 24, [.emp 118 (.prod (.int .i64) (.prod (.int .i64) (.sl 201 (.prod (.int .i64) (.prod (.int .i64) (.prod (.int .i64) (.sl 155 (.int .u64))))))))], some (.sl 118 (.prod (.int .i64) (.prod (.int .i64) (.sl 201 (.prod (.int .i64) (.prod (.int .i64) (.prod (.int .i64) (.sl 155 (.int .u64))))))))), some 118, []⟩),
(23, ⟨false, 1, 8, [.undef], none, none, []⟩),
(24, ⟨false, 1, 24, [.emp 123 (.prod (.int .i64) (.prod (.int .i64) (.prod (.int .i64) (.sl 155 (.int .u64)))))], some (.sl 123 (.prod (.int .i64) (.prod (.int .i64) (.prod (.int .i64) (.sl 155 (.int .u64)))))), some 123, []⟩),
(25, ⟨false, 1, 8, [.undef], none, none, []⟩),
(26, ⟨false, 1, 24, [.emp 120 (.prod (.int .i64) (.prod (.int .i64) (.sl 123 (.prod (.int .i64) (.prod (.int .i64) (.prod (.int .i64) (.sl 155 (.int .u64))))))))], some (.sl 120 (.prod (.int .i64) (.prod (.int .i64) (.sl 123 (.prod (.int .i64) (.prod (.int .i64) (.prod (.int .i64) (.sl 155 (.int .u64))))))))), some 120, []⟩),
(27, ⟨false, 1, 8, [.undef], none, none, []⟩),
(28, ⟨false, 1, 8, [.undef], none, none, []⟩),
(29, ⟨false, 1, 8, [.undef], none, none, []⟩),
(30, ⟨false, 1, 8, [.undef], none, none, []⟩),
(31, ⟨false, 1, 8, [.undef], none, none, []⟩),
(32, ⟨false, 1, 8, [.undef], none, none, []⟩),
(33, ⟨false, 1, 24, [.emp 2 (.int .i64)], some (.sl 2 (.int .i64)), some 2, []⟩),
(34, ⟨false, 1, 24, [.emp 201 (.prod (.int .i64) (.prod (.int .i64) (.prod (.int .i64) (.sl 155 (.int .u64)))))], some (.sl 201 (.prod (.int .i64) (.prod (.int .i64) (.prod (.int .i64) (.sl 155 (.int .u64)))))), some 201, []⟩),
(35, ⟨true, 2, 48, [.emp 2 (.int .i64), .emp 201 (.prod (.int .i64) (.prod (.int .i64) (.prod (.int .i64) (.sl 155 (.int .u64)))))], some (.prod (.sl 2 (.int .i64)) (.sl 201 (.prod (.int .i64) (.prod (.int .i64) (.prod (.int .i64) (.sl 155 (.int .u64))))))), none, [(0, 33), (1, 34)]⟩),
(36, ⟨true, 2, 48, [.emp 2 (.int .i64), .emp 201 (.prod (.int .i64) (.prod (.int .i64) (.prod (.int .i64) (.sl 155 (.int .u64)))))], some (.prod (.sl 2 (.int .i64)) (.sl 201 (.prod (.int .i64) (.prod (.int .i64) (.prod (.int .i64) (.sl 155 (.int .u64))))))), none, [(0, 33), (1, 34)]⟩),
(37, ⟨false, 1, 24, [.emp 131 (.prod (.int .i64) (.sl 155 (.int .u64)))], some (.sl 131 (.prod (.int .i64) (.sl 155 (.int .u64)))), some 131, []⟩),
(38, ⟨false, 1, 8, [.undef], none, none, []⟩),
(39, ⟨false, 1, 8, [.undef], none, none, []⟩),
(40, ⟨false, 1, 8, [.undef], none, none, []⟩),
(41, ⟨true, 2, 48, [.emp 2 (.int .i64), .emp 123 (.prod (.int .i64) (.prod (.int .i64) (.prod (.int .i64) (.sl 155 (.int .u64)))))], some (.prod (.sl 2 (.int .i64)) (.sl 123 (.prod (.int .i64) (.prod (.int .i64) (.prod (.int .i64) (.sl 155 (.int .u64))))))), none, [(0, 33), (1, 24)]⟩),
(42, ⟨true, 2, 48, [.emp 2 (.int .i64), .emp 123 (.prod (.int .i64) (.prod (.int .i64) (.prod (.int .i64) (.sl 155 (.int .u64)))))], some (.prod (.sl 2 (.int .i64)) (.sl 123 (.prod (.int .i64) (.prod (.int .i64) (.prod (.int .i64) (.sl 155 (.int .u64))))))), none, [(0, 33), (1, 24)]⟩),
(43, ⟨false, 1, 8, [.undef], none, none, []⟩),
(44, ⟨false, 1, 24, [.emp 58 (.prod (.int .i64) (.sl 155 (.int .u64)))], some (.sl 58 (.prod (.int .i64) (.sl 155 (.int .u64)))), some 58, []⟩),
(45, ⟨false, 1, 8, [.undef], none, none, []⟩),
(46, ⟨false, 1, 8, [.undef], none, none, []⟩),
(47, ⟨false, 1, 8, [.undef], none, none, []⟩),
(48, ⟨false, 1, 8, [.undef], none, none, []⟩),
(49, ⟨false, 1, 24, [.emp 5 (.int .u8)], some (.sl 5 (.int .u8)), some 5, []⟩),
(50, ⟨false, 1, 8, [.undef], none, none, []⟩),
(52, ⟨false, 1, 8, [.undef], none, none, []⟩),
(54, ⟨false, 1, 8, [.undef], none, none, []⟩),
(55, ⟨false, 1, 8, [.int .u64 0], some (.int .u64), none, []⟩),
(56, ⟨false, 1, 24, [.emp 155 (.int .u64)], some (.sl 155 (.int .u64)), some 155, []⟩),
(57, ⟨true, 2, 32, [.int .i64 0, .emp 155 (.int .u64)], some (.prod (.int .i64) (.sl 155 (.int .u64))), none, [(0, 2), (1, 56)]⟩),
(58, ⟨true, 2, 32, [.int .i64 0, .emp 155 (.int .u64)], some (.prod (.int .i64) (.sl 155 (.int .u64))), none, [(0, 2), (1, 56)]⟩),
(60, ⟨false, 1, 8, [.undef], none, none, []⟩),
(61, ⟨false, 1, 24, [.emp 167 (.prod .str (.int .i64))], some (.sl 167 (.prod .str (.int .i64))), some 167, []⟩),
(63, ⟨false, 1, 8, [.undef], none, none, []⟩),
(65, ⟨false, 1, 8, [.undef], none, none, []⟩),
(66, ⟨false, 1, 8, [.undef], none, none, []⟩),
(67, ⟨false, 1, 8, [.undef], none, none, []⟩),
(68, ⟨false, 1, 8, [.undef], none, none, []⟩),
(76, ⟨false, 1, 8, [.undef], none, none, []⟩),
(77, ⟨false, 1, 8, [.undef], none, none, []⟩),
(78, ⟨false, 1, 8, [.undef], none, none, []⟩),
(79, ⟨false, 1, 8, [.undef], none, none, []⟩),
(80, ⟨false, 1, 24, [.emp 174 (.prod (.int .i64) (.prod (.int .i64) (.prod (.int .i64) (.prod (.int .i64) (.prod (.int .i64) (.prod (.sl 155 (.int .u64)) (.sl 2 (.int .i64))))))))], some (.sl 174 (.prod (.int .i64) (.prod (.int .i64) (.prod (.int .i64) (.prod (.int .i64) (.prod (.int .i64) (.prod (.sl 155 (.int .u64)) (.sl 2 (.int .i64))))))))), some 174, []⟩),
(81, ⟨true, 1, 24, [.emp 174 (.prod (.int .i64) (.prod (.int .i64) (.prod (.int .i64) (.prod (.int .i64) (.prod (.int .i64) (.prod (.sl 155 (.int .u64)) (.sl 2 (.int .i64))))))))], some (.sl 174 (.prod (.int .i64) (.prod (.int .i64) (.prod (.int .i64) (.prod (.int .i64) (.prod (.int .i64) (.prod (.sl 155 (.int .u64)) (.sl 2 (.int .i64))))))))), none, [(0, 80)]⟩),
(82, ⟨true, 1, 24, [.emp 174 (.prod (.int .i64) (.prod (.int .i64) (.prod (.int .i64) (.prod (.int .i64) (.prod (.int .i64) (.prod (.sl 155 (.int .u64)) (.sl 2 (.int .i64))))))))], some (.sl 174 (.prod (.int .i64) (.prod (.int .i64) (.prod (.int .i64) (.prod (.int .i64) (.prod (.int .i64) (.prod (.sl 155 (.int .u64)) (.sl 2 (.int .i64))))))))), none, [(0, 80)]⟩),
(83, ⟨false, 1, 8, [.undef], none, none, []⟩),
(85, ⟨false, 1, 8, [.undef], none, none, []⟩),
(86, ⟨false, 1, 8, [.undef], none, none, []⟩),
(88, ⟨false, 1, 8, [.undef], none, none, []⟩),
(90, ⟨false, 1, 24, [.emp 179 (.prod (.int .i64) (.prod .bool (.prod (.sl 174 (.prod (.int .i64) (.prod (.int .i64) (.prod (.int .i64) (.prod (.int .i64) (.prod (.int .i64) (.prod (.sl 155 (.int .u64)) (.sl 2 (.int .i64))))))))) (.sl 174 (.prod (.int .i64) (.prod (.int .i64) (.prod (.int .i64) (.prod (.int .i64) (.prod (.int .i64) (.prod (.sl 155 (.int .u64)) (.sl 2 (.int .i64))))))))))))], some (.sl 179 (.prod (.int .i64) (.prod .bool (.prod (.sl 174 (.prod (.int .i64) (.prod (.int .i64) (.prod (.int .i64) (.prod (.int .i64) (.prod (.int .i64) (.prod (.sl 155 (.int .u64)) (.sl 2 (.int .i64))))))))) (.sl 174 (.prod (.int .i64) (.prod (.int .i64) (.prod (.int .i64) (.prod (.int .i64) (.prod (.int .i64) (.prod (.sl 155 (.int .u64)) (.sl 2 (.int .i64))))))))))))), some 179, []⟩),
(91, ⟨false, 1, 8, [.undef], none, none, []⟩),
(94, ⟨false, 1, 8, [.undef], none, none, []⟩),
(96, ⟨false, 1, 24, [.emp 102 (.prod (.int .i64) (.prod (.int .i64) (.prod (.int .i64) (.prod (.int .i64) (.sl 155 (.int .u64))))))], some (.sl 102 (.prod (.int .i64) (.prod (.int .i64) (.prod (.int .i64) (.prod (.int .i64) (.sl 155 (.int .u64))))))), some 102, []⟩),
(98, ⟨false, 1, 8, [.undef], none, none, []⟩),
(102, ⟨true, 5, 56, [.int .i64 0, .int .i64 0, .int .i64 0, .int .i64 0, .emp 155 (.int .u64)], some (.prod (.int .i64) (.prod (.int .i64) (.prod (.int .i64) (.prod (.int .i64) (.sl 155 (.int .u64)))))), none, [(0, 2), (1, 2), (2, 2), (3, 58)]⟩),
(115, ⟨false, 1, 8, [.undef], none, none, []⟩),
(118, ⟨true, 3, 40, [.int .i64 0, .int .i64 0, .emp 201 (.prod (.int .i64) (.prod (.int .i64) (.prod (.int .i64) (.sl 155 (.int .u64)))))], some (.prod (.int .i64) (.prod (.int .i64) (.sl 201 (.prod (.int .i64) (.prod (.int .i64) (.prod (.int .i64) (.sl 155 (.int .u64)))))))), none, [(0, 2), (1, 2), (2, 34)]⟩),
(120, ⟨true, 3, 40, [.int .i64 0, .int .i64 0, .emp 123 (.prod (.int .i64) (.prod (.int .i64) (.prod (.int .i64) (.sl 155 (.int .u64)))))], some (.prod (.int .i64) (.prod (.int .i64) (.sl 123 (.prod (.int .i64) (.prod (.int .i64) (.prod (.int .i64) (.sl 155 (.int .u64)))))))), none, [(0, 2), (1, 2), (2, 24)]⟩),
(123, ⟨true, 4, 48, [.int .i64 0, .int .i64 0, .int .i64 0, .emp 155 (.int .u64)], some (.prod (.int .i64) (.prod (.int .i64) (.prod (.int .i64) (.sl 155 (.int .u64))))), none, [(0, 2), (1, 2), (2, 58)]⟩),
(131, ⟨true, 2, 32, [.int .i64 0, .emp 155 (.int .u64)], some (.prod (.int .i64) (.sl 155 (.int .u64))), none, [(0, 2), (1, 56)]⟩),
(137, ⟨false, 1, 8, [.undef], none, none, []⟩),
(154, ⟨false, 1, 8, [.undef], none, none, []⟩),
(155, ⟨false, 1, 8, [.int .u64 0], some (.int .u64), none, []⟩),
(156, ⟨true, 2, 48, [.emp 2 (.int .i64), .emp 58 (.prod (.int .i64) (.sl 155 (.int .u64)))], some (.prod (.sl 2 (.int .i64)) (.sl 58 (.prod (.int .i64) (.sl 155 (.int .u64))))), none, [(0, 33), (1, 44)]⟩),
(157, ⟨true, 2, 48, [.emp 2 (.int .i64), .emp 58 (.prod (.int .i64) (.sl 155 (.int .u64)))], some (.prod (.sl 2 (.int .i64)) (.sl 58 (.prod (.int .i64) (.sl 155 (.int .u64))))), none, [(0, 33), (1, 44)]⟩),
(158, ⟨false, 1, 24, [.emp 157 (.prod (.sl 2 (.int .i64)) (.sl 58 (.prod (.int .i64) (.sl 155 (.int .u64)))))], some (.sl 157 (.prod (.sl 2 (.int .i64)) (.sl 58 (.prod (.int .i64) (.sl 155 (.int .u64)))))), some 157, []⟩),
(160, ⟨false, 1, 8, [.undef], none, none, []⟩),
(161, ⟨false, 1, 8, [.undef], none, none, []⟩),
(165, ⟨false, 1, 8, [.undef], none, none, []⟩),
(166, ⟨false, 1, 8, [.undef], none, none, []⟩),
(167, ⟨true, 2, 24, [.str [], .int .i64 0], some (.prod .str (.int .i64)), none, [(0, 9), (1, 2)]⟩),
(174, ⟨true, 7, 88, [.int .i64 0, .int .i64 0, .int .i64 0, .int .i64 0, .int .i64 0, .emp 155 (.int .u64), .emp 2 (.int .i64)], some (.prod (.int .i64) (.prod (.int .i64) (.prod (.int .i64) (.prod (.int .i64) (.prod (.int .i64) (.prod (.sl 155 (.int .u64)) (.sl 2 (.int .i64)))))))), none, [(0, 2), (1, 2), (2, 2), (3, 2), (4, 58), (6, 33)]⟩),
(179, ⟨true, 4, 64, [.int .i64 0, .bool false, .emp 174 (.prod (.int .i64) (.prod (.int .i64) (.prod (.int .i64) (.prod (.int .i64) (.prod (.int .i64) (.prod (.sl 155 (.int .u64)) (.sl 2 (.int .i64)))))))), .emp 174 (.prod (.int .i64) (.prod (.int .i64) (.prod (.int .i64) (.prod (.int .i64) (.prod (.int .i64) (.prod (.sl 155 (.int .u64)) (.sl 2 (.int .i64))))))))], some (.prod (.int .i64) (.prod .bool (.prod (.sl 174 (.prod (.int .i64) (.prod (.int .i64) (.prod (.int .i64) (.prod (.int .i64) (.prod (.int .i64) (.prod (.sl 155 (.int .u64)) (.sl 2 (.int .i64))))))))) (.sl 174 (.prod (.int .i64) (.prod (.int .i64) (.prod (.int .i64) (.prod (.int .i64) (.prod (.int .i64) (.prod (.sl 155 (.int .u64)) (.sl 2 (.int .i64)))))))))))), none, [(0, 2), (1, 4), (2, 82), (3, 82)]⟩),
(181, ⟨false, 1, 8, [.undef], none, none, []⟩),
(201, ⟨true, 4, 48, [.int .i64 0, .int .i64 0, .int .i64 0, .emp 155 (.int .u64)], some (.prod (.int .i64) (.prod (.int .i64) (.prod (.int .i64) (.sl 155 (.int .u64))))), none, [(0, 2), (1, 2), (2, 131)]⟩)]
noncomputable def fns : List (Nat × Func) := [(3, Try.f3), (15, Try.f15), (16, Try.f16), (17, Try.f17), (18, Try.f18), (19, Try.f19), (20, Try.f20), (21, Try.f21), (22, Try.f22), (23, Try.f23), (76, Try.f76), (77, Try.f77), (78, Try.f78), (79, Try.f79), (80, Try.f80), (81, Try.f81), (82, Try.f82), (83, Try.f83), (85, Try.f85), (86, Try.f86), (88, Try.f88), (90, Try.f90), (91, Try.f91), (94, Try.f94), (96, Try.f96), (98, Try.f98), (115, Try.f115), (118, Try.f118), (154, Try.f154), (155, Try.f155), (156, Try.f156), (157, Try.f157), (158, Try.f158), (160, Try.f160), (161, Try.f161), (165, Try.f165), (166, Try.f166), (167, Try.f167), (181, Try.f181)]
def fis : List (Nat × Fi) := [
(3, ⟨[], [], [(1000015, ⟨⟨[0, 4, 6, 42], []⟩, [(1000000, ⟨[0, 4, 6], []⟩)], ⟨[2], []⟩⟩)]⟩),
(15, ⟨[], [], [(5, ⟨⟨[0, 1, 5], []⟩, [(0, ⟨[1], []⟩)], ⟨[4], []⟩⟩)]⟩),
(16, ⟨[], [], [(3, ⟨⟨[0, 3, 4], [(3, 0, .own 99)]⟩, [(0, ⟨[3], []⟩)], ⟨[2], []⟩⟩)]⟩),
(17, ⟨[], [], [(3, ⟨⟨[0, 3, 4], []⟩, [(0, ⟨[3], []⟩)], ⟨[2], []⟩⟩)]⟩),
(18, ⟨[], [], [(3, ⟨⟨[3, 7, 8, 9], [(3, 0, .own 99)]⟩, [(0, ⟨[3], []⟩)], ⟨[2], []⟩⟩)]⟩),
(19, ⟨[], [], [(4, ⟨⟨[0, 1, 5], []⟩, [(0, ⟨[], []⟩)], ⟨[4], []⟩⟩)]⟩),
(20, ⟨[], [], [(4, ⟨⟨[0, 1, 5], []⟩, [(0, ⟨[], []⟩)], ⟨[4], []⟩⟩)]⟩),
(21, ⟨[1], [], [(2, ⟨⟨[0, 1, 5], []⟩, [(0, ⟨[1], []⟩)], ⟨[4], []⟩⟩)]⟩),
(22, ⟨[1], [], [(2, ⟨⟨[0, 1, 5], []⟩, [(0, ⟨[1], []⟩)], ⟨[4], []⟩⟩)]⟩),
(23, ⟨[], [], [(2, ⟨⟨[0, 1, 5], []⟩, [(0, ⟨[1], []⟩)], ⟨[4], []⟩⟩)]⟩),
(76, ⟨[], [], []⟩),
(77, ⟨[2], [], [(2, ⟨⟨[0, 3, 5], []⟩, [(0, ⟨[0, 3], []⟩)], ⟨[4], []⟩⟩)]⟩),
(78, ⟨[], [], []⟩),
(79, ⟨[2], [], []⟩),
(80, ⟨[], [], []⟩),
(81, ⟨[], [], []⟩),
(82, ⟨[1], [], [(2, ⟨⟨[0, 1, 5], []⟩, [(0, ⟨[1], []⟩)], ⟨[4], []⟩⟩)]⟩),
(83, ⟨[], [], [(2, ⟨⟨[0, 1, 5], []⟩, [(0, ⟨[1], []⟩)], ⟨[4], []⟩⟩)]⟩),
(85, ⟨[], [], [(5, ⟨⟨[0, 1, 5], []⟩, [(0, ⟨[1], []⟩)], ⟨[4], []⟩⟩)]⟩),
(86, ⟨[], [], []⟩),
(88, ⟨[], [], [(4, ⟨⟨[2, 3, 5], []⟩, [(0, ⟨[], []⟩)], ⟨[4], []⟩⟩)]⟩),
(90, ⟨[], [], [(3, ⟨⟨[0, 3, 4], []⟩, [(0, ⟨[3], []⟩)], ⟨[2], []⟩⟩)]⟩),
(91, ⟨[], [], []⟩),
(94, ⟨[], [], []⟩),
(96, ⟨[], [], []⟩),
(98, ⟨[], [], []⟩),
(115, ⟨[], [], []⟩),
(118, ⟨[], [], []⟩),
(154, ⟨[], [], []⟩),
(155, ⟨[], [], []⟩),
(156, ⟨[], [], []⟩),
(157, ⟨[], [], []⟩),
(158, ⟨[], [], []⟩),
(160, ⟨[], [], []⟩),
(161, ⟨[], [], [(3, ⟨⟨[0, 3, 4], []⟩, [(0, ⟨[3], []⟩)], ⟨[2], []⟩⟩)]⟩),
(165, ⟨[], [], [(2, ⟨⟨[0, 1, 7, 8], []⟩, [(0, ⟨[], []⟩)], ⟨[4], []⟩⟩)]⟩),
(166, ⟨[], [], [(4, ⟨⟨[0, 1, 12, 13], []⟩, [(0, ⟨[], []⟩)], ⟨[4], []⟩⟩)]⟩),
(167, ⟨[], [], [(4, ⟨⟨[0, 1, 5], []⟩, [(0, ⟨[], []⟩)], ⟨[4], []⟩⟩)]⟩),
(181, ⟨[], [], []⟩)]
def fiF (f : Nat) : Fi := (look f fis).getD ⟨[], [], []⟩
noncomputable def C : Ctx := { ti := fun t => look t tis, fs := fun f => look f fns, fi := fiF }
def bodyOf (f : Func) : Code := f.body.getD .skip
def loopOf (f : Func) (k : Nat) : Code := (findLoop k (bodyOf f)).getD .skip
def cutOf (f : Func) (k : Nat) : Code := (findCut k (bodyOf f)).getD .skip
def liOf (l : List (Nat × Li)) (k : Nat) : Li := (look k l).getD ⟨⟨[], []⟩, [], ⟨[], []⟩⟩
theorem tis_ok : (tis.all fun x => tiB Try.prog x.1 x.2) = true := by kernel_rfl
theorem fns_all : (fns.all fun x => fnB (fiF x.1) x.2) = true := by kernel_rfl
theorem fnp (f : Nat) (x : Func) (r : List (Nat × Func)) (h : Try.prog.funcs[f]? = some x) (hr : ∀ y ∈ r, Try.prog.funcs[y.1]? = some y.2) : ∀ y ∈ (f, x) :: r, Try.prog.funcs[y.1]? = some y.2 := List.forall_mem_cons.2 ⟨h, hr⟩
set_option maxRecDepth 100000 in
theorem fns_prog : ∀ x ∈ fns, Try.prog.funcs[x.1]? = some x.2 := (fnp _ _ _ Try.func3
(fnp _ _ _ Try.func15
(fnp _ _ _ Try.func16
(fnp _ _ _ Try.func17
(fnp _ _ _ Try.func18
(fnp _ _ _ Try.func19
(fnp _ _ _ Try.func20
(fnp _ _ _ Try.func21
(fnp _ _ _ Try.func22
(fnp _ _ _ Try.func23
(fnp _ _ _ Try.func76
(fnp _ _ _ Try.func77
(fnp _ _ _ Try.func78
(fnp _ _ _ Try.func79
(fnp _ _ _ Try.func80
(fnp _ _ _ Try.func81
(fnp _ _ _ Try.func82
(fnp _ _ _ Try.func83
(fnp _ _ _ Try.func85
(fnp _ _ _ Try.func86
(fnp _ _ _ Try.func88
(fnp _ _ _ Try.func90
(fnp _ _ _ Try.func91
(fnp _ _ _ Try.func94
(fnp _ _ _ Try.func96
(fnp _ _ _ Try.func98
(fnp _ _ _ Try.func115
(fnp _ _ _ Try.func118
(fnp _ _ _ Try.func154
(fnp _ _ _ Try.func155
(fnp _ _ _ Try.func156
(fnp _ _ _ Try.func157
(fnp _ _ _ Try.func158
(fnp _ _ _ Try.func160
(fnp _ _ _ Try.func161
(fnp _ _ _ Try.func165
(fnp _ _ _ Try.func166
(fnp _ _ _ Try.func167
(fnp _ _ _ Try.func181
(fun _ h => by cases h))))))))))))))))))))))))))))))))))))))))
theorem C_ok : CtxOK Try.prog C := ctx_ok tis_ok fns_prog
theorem C_fns : FnsOK Try.prog C := Go.Vsi.fns_ok fns_all
theorem C_follows : Try.prog.follows .mixedOrders = true := by kernel_rfl
def D0 (n : Nat) : CallF := noC
theorem D0_ok {X0 : CallF} (hX : CallF.Mono X0) : ∀ n g a K, D0 n g a K → callM C X0 n g a K := fun n => noC_ok
end Go.Vsi
end

section
set_option linter.unusedVariables false
namespace Go.Vsi
open Go.Proofs
section
variable {X0 : CallF} (hX : CallF.Mono X0)
include hX
abbrev laws_szUint64S.a : List TS := [.c (.o (.dat 155 (.int .u64))), .c (.o (.int .i64))]
def laws_szUint64S.u (n : Nat) (v : VA laws_szUint64S.a) (K : RES → Prop) : Prop := laws_szUint64S.c n v.1 v.2.1 (fun r0 => K ⟨.c (.int .i64 r0), []⟩)
theorem laws_szUint64S_ok : ∀ n v K, laws_szUint64S.u n v K → callM C X0 n 158 (fillA laws_szUint64S.a v) K :=
  call_tell hX (fn := Try.f158) (c := bodyOf Try.f158) (by kernel_rfl) (by kernel_rfl) (A := laws_szUint64S.a) (u := laws_szUint64S.u) (fun _ _ h => h) (call := D0) (lp := fun n => noL) (D0_ok hX) (fun n => noL_ok) (fun n v K => by kernel_rfl)
def D1 (n : Nat) : CallF := orC 158 laws_szUint64S.a (laws_szUint64S.u n) (D0 n)
theorem D1_ok : ∀ n g a K, D1 n g a K → callM C X0 n g a K := fun n => orC_ok (laws_szUint64S_ok hX n) (D0_ok hX n)
abbrev laws_szBits.a : List TS := [.a [.o (.int .i64), .o (.dat 155 (.int .u64))], .c (.o (.int .i64))]
def laws_szBits.u (n : Nat) (v : VA laws_szBits.a) (K : RES → Prop) : Prop := laws_szBits.c n v.1.1 v.1.2.1 v.2.1 (fun r0 => K ⟨.c (.int .i64 r0), []⟩)
theorem laws_szBits_ok : ∀ n v K, laws_szBits.u n v K → callM C X0 n 86 (fillA laws_szBits.a v) K :=
  call_tell hX (fn := Try.f86) (c := bodyOf Try.f86) (by kernel_rfl) (by kernel_rfl) (A := laws_szBits.a) (u := laws_szBits.u) (fun _ _ h => h) (call := D1) (lp := fun n => noL) (D1_ok hX) (fun n => noL_ok) (fun n v K => by kernel_rfl)
def D2 (n : Nat) : CallF := orC 86 laws_szBits.a (laws_szBits.u n) (D1 n)
theorem D2_ok : ∀ n g a K, D2 n g a K → callM C X0 n g a K := fun n => orC_ok (laws_szBits_ok hX n) (D1_ok hX n)
abbrev laws_szBar.a : List TS := [.a [.o (.int .i64), .o (.int .i64), .o (.int .i64), .o (.dat 155 (.int .u64))], .c (.o (.int .i64))]
def laws_szBar.u (n : Nat) (v : VA laws_szBar.a) (K : RES → Prop) : Prop := laws_szBar.c n v.1.1 v.1.2.1 v.1.2.2.1 v.1.2.2.2.1 v.2.1 (fun r0 => K ⟨.c (.int .i64 r0), []⟩)
theorem laws_szBar_ok : ∀ n v K, laws_szBar.u n v K → callM C X0 n 157 (fillA laws_szBar.a v) K :=
  call_tell hX (fn := Try.f157) (c := bodyOf Try.f157) (by kernel_rfl) (by kernel_rfl) (A := laws_szBar.a) (u := laws_szBar.u) (fun _ _ h => h) (call := D2) (lp := fun n => noL) (D2_ok hX) (fun n => noL_ok) (fun n v K => by kernel_rfl)
def D3 (n : Nat) : CallF := orC 157 laws_szBar.a (laws_szBar.u n) (D2 n)
theorem D3_ok : ∀ n g a K, D3 n g a K → callM C X0 n g a K := fun n => orC_ok (laws_szBar_ok hX n) (D2_ok hX n)
abbrev laws_szBarS.a : List TS := [.c (.o (.dat 201 (.prod (.int .i64) (.prod (.int .i64) (.prod (.int .i64) (.sl 155 (.int .u64))))))), .c (.o (.int .i64))]
def laws_szBarS.u (n : Nat) (v : VA laws_szBarS.a) (K : RES → Prop) : Prop := laws_szBarS.c n v.1 v.2.1 (fun r0 => K ⟨.c (.int .i64 r0), []⟩)
abbrev laws_szBarS.l5.s : ST := ⟨[(0, .c (.o (.dat 201 (.prod (.int .i64) (.prod (.int .i64) (.prod (.int .i64) (.sl 155 (.int .u64)))))))), (1, .c (.o (.int .i64))), (5, .c (.o (.int .i64)))], [], [], [], []⟩
def laws_szBarS.l5.u (n : Nat) (v : laws_szBarS.l5.s.V) (K : X → St → Prop) : Prop := laws_szBarS.l5 n v.1.1 v.1.2.1 v.1.2.2.1 (fun y0 => K (.exit 0) ⟨[(1, .c (.int .i64 y0))], [], [], [], []⟩) (fun y0 => K .ret ⟨[(4, .c (.int .i64 y0))], [], [], [], []⟩)
theorem laws_szBarS.l5_ok : ∀ n v K, laws_szBarS.l5.u n v K → loopM C X0 n 85 5 (laws_szBarS.l5.s.fill v) K :=
  loop_tell hX (fn := Try.f85) (c := bodyOf Try.f85) (a := loopOf Try.f85 5) (li := liOf (C.fi 85).loops 5) (by kernel_rfl) (by kernel_rfl) (of_decide_eq_true rfl) (by kernel_rfl) (by kernel_rfl) (T := laws_szBarS.l5.s) (u := laws_szBarS.l5.u) (fun _ _ h => h) (call := D3) (lp := fun n => noL) (D3_ok hX) (fun n => noL_ok) (fun n v K => by kernel_rfl)
theorem laws_szBarS_ok : ∀ n v K, laws_szBarS.u n v K → callM C X0 n 85 (fillA laws_szBarS.a v) K :=
  call_tell hX (fn := Try.f85) (c := bodyOf Try.f85) (by kernel_rfl) (by kernel_rfl) (A := laws_szBarS.a) (u := laws_szBarS.u) (fun _ _ h => h) (call := D3) (lp := fun n => orL 5 laws_szBarS.l5.s (laws_szBarS.l5.u n) noL) (D3_ok hX) (fun n => (orL_ok (laws_szBarS.l5_ok hX n) noL_ok)) (fun n v K => by kernel_rfl)
def D4 (n : Nat) : CallF := orC 85 laws_szBarS.a (laws_szBarS.u n) (D3 n)
theorem D4_ok : ∀ n g a K, D4 n g a K → callM C X0 n g a K := fun n => orC_ok (laws_szBarS_ok hX n) (D3_ok hX n)
abbrev laws_szSplit.a : List TS := [.a [.o (.int .i64), .o (.int .i64), .o (.dat 201 (.prod (.int .i64) (.prod (.int .i64) (.prod (.int .i64) (.sl 155 (.int .u64))))))], .c (.o (.int .i64))]
def laws_szSplit.u (n : Nat) (v : VA laws_szSplit.a) (K : RES → Prop) : Prop := laws_szSplit.c n v.1.1 v.1.2.1 v.1.2.2.1 v.2.1 (fun r0 => K ⟨.c (.int .i64 r0), []⟩)
theorem laws_szSplit_ok : ∀ n v K, laws_szSplit.u n v K → callM C X0 n 76 (fillA laws_szSplit.a v) K :=
  call_tell hX (fn := Try.f76) (c := bodyOf Try.f76) (by kernel_rfl) (by kernel_rfl) (A := laws_szSplit.a) (u := laws_szSplit.u) (fun _ _ h => h) (call := D4) (lp := fun n => noL) (D4_ok hX) (fun n => noL_ok) (fun n v K => by kernel_rfl)
def D5 (n : Nat) : CallF := orC 76 laws_szSplit.a (laws_szSplit.u n) (D4 n)
theorem D5_ok : ∀ n g a K, D5 n g a K → callM C X0 n g a K := fun n => orC_ok (laws_szSplit_ok hX n) (D4_ok hX n)
abbrev laws_szSplitS.a : List TS := [.c (.o (.dat 118 (.prod (.int .i64) (.prod (.int .i64) (.sl 201 (.prod (.int .i64) (.prod (.int .i64) (.prod (.int .i64) (.sl 155 (.int .u64)))))))))), .c (.o (.int .i64))]
def laws_szSplitS.u (n : Nat) (v : VA laws_szSplitS.a) (K : RES → Prop) : Prop := laws_szSplitS.c n v.1 v.2.1 (fun r0 => K ⟨.c (.int .i64 r0), []⟩)
abbrev laws_szSplitS.l5.s : ST := ⟨[(0, .c (.o (.dat 118 (.prod (.int .i64) (.prod (.int .i64) (.sl 201 (.prod (.int .i64) (.prod (.int .i64) (.prod (.int .i64) (.sl 155 (.int .u64))))))))))), (1, .c (.o (.int .i64))), (5, .c (.o (.int .i64)))], [], [], [], []⟩
def laws_szSplitS.l5.u (n : Nat) (v : laws_szSplitS.l5.s.V) (K : X → St → Prop) : Prop := laws_szSplitS.l5 n v.1.1 v.1.2.1 v.1.2.2.1 (fun y0 => K (.exit 0) ⟨[(1, .c (.int .i64 y0))], [], [], [], []⟩) (fun y0 => K .ret ⟨[(4, .c (.int .i64 y0))], [], [], [], []⟩)
theorem laws_szSplitS.l5_ok : ∀ n v K, laws_szSplitS.l5.u n v K → loopM C X0 n 15 5 (laws_szSplitS.l5.s.fill v) K :=
  loop_tell hX (fn := Try.f15) (c := bodyOf Try.f15) (a := loopOf Try.f15 5) (li := liOf (C.fi 15).loops 5) (by kernel_rfl) (by kernel_rfl) (of_decide_eq_true rfl) (by kernel_rfl) (by kernel_rfl) (T := laws_szSplitS.l5.s) (u := laws_szSplitS.l5.u) (fun _ _ h => h) (call := D5) (lp := fun n => noL) (D5_ok hX) (fun n => noL_ok) (fun n v K => by kernel_rfl)
theorem laws_szSplitS_ok : ∀ n v K, laws_szSplitS.u n v K → callM C X0 n 15 (fillA laws_szSplitS.a v) K :=
  call_tell hX (fn := Try.f15) (c := bodyOf Try.f15) (by kernel_rfl) (by kernel_rfl) (A := laws_szSplitS.a) (u := laws_szSplitS.u) (fun _ _ h => h) (call := D5) (lp := fun n => orL 5 laws_szSplitS.l5.s (laws_szSplitS.l5.u n) noL) (D5_ok hX) (fun n => (orL_ok (laws_szSplitS.l5_ok hX n) noL_ok)) (fun n v K => by kernel_rfl)
def D6 (n : Nat) : CallF := orC 15 laws_szSplitS.a (laws_szSplitS.u n) (D5 n)
theorem D6_ok : ∀ n g a K, D6 n g a K → callM C X0 n g a K := fun n => orC_ok (laws_szSplitS_ok hX n) (D5_ok hX n)
abbrev laws_toUint64S.a : List TS := [.c (.o (.dat 155 (.int .u64)))]
def laws_toUint64S.u (n : Nat) (v : VA laws_toUint64S.a) (K : RES → Prop) : Prop := laws_toUint64S.c n v.1 (fun r0 => K ⟨.c (.row ⟨155, .int .u64, r0, 99, none⟩), []⟩)
abbrev laws_toUint64S.l3.s : ST := ⟨[(0, .c (.o (.dat 155 (.int .u64)))), (3, .c (.o (.own 224))), (4, .c (.o (.int .i64)))], [⟨224, 155, .int .u64, 99⟩], [], [], []⟩
def laws_toUint64S.l3.u (n : Nat) (v : laws_toUint64S.l3.s.V) (K : X → St → Prop) : Prop := laws_toUint64S.l3 n v.1.1 v.1.2.2.1 v.2.1.1 (fun y0 => K (.exit 0) ⟨[(3, .c (.own 224))], [(224, ⟨155, .int .u64, y0, 99, none⟩)], [], [], []⟩)
theorem laws_toUint64S.l3_ok : ∀ n v K, laws_toUint64S.l3.u n v K → loopM C X0 n 161 3 (laws_toUint64S.l3.s.fill v) K :=
  loop_tell hX (fn := Try.f161) (c := bodyOf Try.f161) (a := loopOf Try.f161 3) (li := liOf (C.fi 161).loops 3) (by kernel_rfl) (by kernel_rfl) (of_decide_eq_true rfl) (by kernel_rfl) (by kernel_rfl) (T := laws_toUint64S.l3.s) (u := laws_toUint64S.l3.u) (fun _ _ h => h) (call := D6) (lp := fun n => noL) (D6_ok hX) (fun n => noL_ok) (fun n v K => by kernel_rfl)
theorem laws_toUint64S_ok : ∀ n v K, laws_toUint64S.u n v K → callM C X0 n 161 (fillA laws_toUint64S.a v) K :=
  call_tell hX (fn := Try.f161) (c := bodyOf Try.f161) (by kernel_rfl) (by kernel_rfl) (A := laws_toUint64S.a) (u := laws_toUint64S.u) (fun _ _ h => h) (call := D6) (lp := fun n => orL 3 laws_toUint64S.l3.s (laws_toUint64S.l3.u n) noL) (D6_ok hX) (fun n => (orL_ok (laws_toUint64S.l3_ok hX n) noL_ok)) (fun n v K => by kernel_rfl)
def D7 (n : Nat) : CallF := orC 161 laws_toUint64S.a (laws_toUint64S.u n) (D6 n)
theorem D7_ok : ∀ n g a K, D7 n g a K → callM C X0 n g a K := fun n => orC_ok (laws_toUint64S_ok hX n) (D6_ok hX n)
abbrev laws_toBits.a : List TS := [.a [.o (.int .i64), .o (.dat 155 (.int .u64))]]
def laws_toBits.u (n : Nat) (v : VA laws_toBits.a) (K : RES → Prop) : Prop := laws_toBits.c n v.1.1 v.1.2.1 (fun r0 r1 => K ⟨.agg [.int .i64 r0, .row ⟨155, .int .u64, r1, 99, none⟩], []⟩)
theorem laws_toBits_ok : ∀ n v K, laws_toBits.u n v K → callM C X0 n 91 (fillA laws_toBits.a v) K :=
  call_tell hX (fn := Try.f91) (c := bodyOf Try.f91) (by kernel_rfl) (by kernel_rfl) (A := laws_toBits.a) (u := laws_toBits.u) (fun _ _ h => h) (call := D7) (lp := fun n => noL) (D7_ok hX) (fun n => noL_ok) (fun n v K => by kernel_rfl)
def D8 (n : Nat) : CallF := orC 91 laws_toBits.a (laws_toBits.u n) (D7 n)
theorem D8_ok : ∀ n g a K, D8 n g a K → callM C X0 n g a K := fun n => orC_ok (laws_toBits_ok hX n) (D7_ok hX n)
abbrev laws_toBar.a : List TS := [.a [.o (.int .i64), .o (.int .i64), .o (.int .i64), .o (.dat 155 (.int .u64))]]
def laws_toBar.u (n : Nat) (v : VA laws_toBar.a) (K : RES → Prop) : Prop := laws_toBar.c n v.1.1 v.1.2.1 v.1.2.2.1 v.1.2.2.2.1 (fun r0 r1 r2 r3 => K ⟨.agg [.int .i64 r0, .int .i64 r1, .int .i64 r2, .row ⟨155, .int .u64, r3, 99, none⟩], []⟩)
theorem laws_toBar_ok : ∀ n v K, laws_toBar.u n v K → callM C X0 n 160 (fillA laws_toBar.a v) K :=
  call_tell hX (fn := Try.f160) (c := bodyOf Try.f160) (by kernel_rfl) (by kernel_rfl) (A := laws_toBar.a) (u := laws_toBar.u) (fun _ _ h => h) (call := D8) (lp := fun n => noL) (D8_ok hX) (fun n => noL_ok) (fun n v K => by kernel_rfl)
def D9 (n : Nat) : CallF := orC 160 laws_toBar.a (laws_toBar.u n) (D8 n)
theorem D9_ok : ∀ n g a K, D9 n g a K → callM C X0 n g a K := fun n => orC_ok (laws_toBar_ok hX n) (D8_ok hX n)
abbrev laws_toBarS.a : List TS := [.c (.o (.dat 201 (.prod (.int .i64) (.prod (.int .i64) (.prod (.int .i64) (.sl 155 (.int .u64)))))))]
def laws_toBarS.u (n : Nat) (v : VA laws_toBarS.a) (K : RES → Prop) : Prop := laws_toBarS.c n v.1 (fun r0 => K ⟨.c (.row ⟨123, .prod (.int .i64) (.prod (.int .i64) (.prod (.int .i64) (.sl 155 (.int .u64)))), r0, 99, none⟩), []⟩)
abbrev laws_toBarS.l3.s : ST := ⟨[(0, .c (.o (.dat 201 (.prod (.int .i64) (.prod (.int .i64) (.prod (.int .i64) (.sl 155 (.int .u64)))))))), (3, .c (.o (.own 224))), (4, .c (.o (.int .i64)))], [⟨224, 123, .prod (.int .i64) (.prod (.int .i64) (.prod (.int .i64) (.sl 155 (.int .u64)))), 99⟩], [], [], []⟩
def laws_toBarS.l3.u (n : Nat) (v : laws_toBarS.l3.s.V) (K : X → St → Prop) : Prop := laws_toBarS.l3 n v.1.1 v.1.2.2.1 v.2.1.1 (fun y0 => K (.exit 0) ⟨[(3, .c (.own 224))], [(224, ⟨123, .prod (.int .i64) (.prod (.int .i64) (.prod (.int .i64) (.sl 155 (.int .u64)))), y0, 99, none⟩)], [], [], []⟩)
theorem laws_toBarS.l3_ok : ∀ n v K, laws_toBarS.l3.u n v K → loopM C X0 n 90 3 (laws_toBarS.l3.s.fill v) K :=
  loop_tell hX (fn := Try.f90) (c := bodyOf Try.f90) (a := loopOf Try.f90 3) (li := liOf (C.fi 90).loops 3) (by kernel_rfl) (by kernel_rfl) (of_decide_eq_true rfl) (by kernel_rfl) (by kernel_rfl) (T := laws_toBarS.l3.s) (u := laws_toBarS.l3.u) (fun _ _ h => h) (call := D9) (lp := fun n => noL) (D9_ok hX) (fun n => noL_ok) (fun n v K => by kernel_rfl)
theorem laws_toBarS_ok : ∀ n v K, laws_toBarS.u n v K → callM C X0 n 90 (fillA laws_toBarS.a v) K :=
  call_tell hX (fn := Try.f90) (c := bodyOf Try.f90) (by kernel_rfl) (by kernel_rfl) (A := laws_toBarS.a) (u := laws_toBarS.u) (fun _ _ h => h) (call := D9) (lp := fun n => orL 3 laws_toBarS.l3.s (laws_toBarS.l3.u n) noL) (D9_ok hX) (fun n => (orL_ok (laws_toBarS.l3_ok hX n) noL_ok)) (fun n v K => by kernel_rfl)
def D10 (n : Nat) : CallF := orC 90 laws_toBarS.a (laws_toBarS.u n) (D9 n)
theorem D10_ok : ∀ n g a K, D10 n g a K → callM C X0 n g a K := fun n => orC_ok (laws_toBarS_ok hX n) (D9_ok hX n)
abbrev laws_toSplit.a : List TS := [.a [.o (.int .i64), .o (.int .i64), .o (.dat 201 (.prod (.int .i64) (.prod (.int .i64) (.prod (.int .i64) (.sl 155 (.int .u64))))))]]
def laws_toSplit.u (n : Nat) (v : VA laws_toSplit.a) (K : RES → Prop) : Prop := laws_toSplit.c n v.1.1 v.1.2.1 v.1.2.2.1 (fun r0 r1 r2 => K ⟨.agg [.int .i64 r0, .int .i64 r1, .row ⟨123, .prod (.int .i64) (.prod (.int .i64) (.prod (.int .i64) (.sl 155 (.int .u64)))), r2, 99, none⟩], []⟩)
theorem laws_toSplit_ok : ∀ n v K, laws_toSplit.u n v K → callM C X0 n 78 (fillA laws_toSplit.a v) K :=
  call_tell hX (fn := Try.f78) (c := bodyOf Try.f78) (by kernel_rfl) (by kernel_rfl) (A := laws_toSplit.a) (u := laws_toSplit.u) (fun _ _ h => h) (call := D10) (lp := fun n => noL) (D10_ok hX) (fun n => noL_ok) (fun n v K => by kernel_rfl)
def D11 (n : Nat) : CallF := orC 78 laws_toSplit.a (laws_toSplit.u n) (D10 n)
theorem D11_ok : ∀ n g a K, D11 n g a K → callM C X0 n g a K := fun n => orC_ok (laws_toSplit_ok hX n) (D10_ok hX n)
abbrev laws_toSplitS.a : List TS := [.c (.o (.dat 118 (.prod (.int .i64) (.prod (.int .i64) (.sl 201 (.prod (.int .i64) (.prod (.int .i64) (.prod (.int .i64) (.sl 155 (.int .u64))))))))))]
def laws_toSplitS.u (n : Nat) (v : VA laws_toSplitS.a) (K : RES → Prop) : Prop := laws_toSplitS.c n v.1 (fun r0 => K ⟨.c (.row ⟨120, .prod (.int .i64) (.prod (.int .i64) (.sl 123 (.prod (.int .i64) (.prod (.int .i64) (.prod (.int .i64) (.sl 155 (.int .u64))))))), r0, 99, none⟩), []⟩)
abbrev laws_toSplitS.l3.s : ST := ⟨[(0, .c (.o (.dat 118 (.prod (.int .i64) (.prod (.int .i64) (.sl 201 (.prod (.int .i64) (.prod (.int .i64) (.prod (.int .i64) (.sl 155 (.int .u64))))))))))), (3, .c (.o (.own 224))), (4, .c (.o (.int .i64)))], [⟨224, 120, .prod (.int .i64) (.prod (.int .i64) (.sl 123 (.prod (.int .i64) (.prod (.int .i64) (.prod (.int .i64) (.sl 155 (.int .u64))))))), 99⟩], [], [], []⟩
def laws_toSplitS.l3.u (n : Nat) (v : laws_toSplitS.l3.s.V) (K : X → St → Prop) : Prop := laws_toSplitS.l3 n v.1.1 v.1.2.2.1 v.2.1.1 (fun y0 => K (.exit 0) ⟨[(3, .c (.own 224))], [(224, ⟨120, .prod (.int .i64) (.prod (.int .i64) (.sl 123 (.prod (.int .i64) (.prod (.int .i64) (.prod (.int .i64) (.sl 155 (.int .u64))))))), y0, 99, none⟩)], [], [], []⟩)
theorem laws_toSplitS.l3_ok : ∀ n v K, laws_toSplitS.l3.u n v K → loopM C X0 n 17 3 (laws_toSplitS.l3.s.fill v) K :=
  loop_tell hX (fn := Try.f17) (c := bodyOf Try.f17) (a := loopOf Try.f17 3) (li := liOf (C.fi 17).loops 3) (by kernel_rfl) (by kernel_rfl) (of_decide_eq_true rfl) (by kernel_rfl) (by kernel_rfl) (T := laws_toSplitS.l3.s) (u := laws_toSplitS.l3.u) (fun _ _ h => h) (call := D11) (lp := fun n => noL) (D11_ok hX) (fun n => noL_ok) (fun n v K => by kernel_rfl)
theorem laws_toSplitS_ok : ∀ n v K, laws_toSplitS.u n v K → callM C X0 n 17 (fillA laws_toSplitS.a v) K :=
  call_tell hX (fn := Try.f17) (c := bodyOf Try.f17) (by kernel_rfl) (by kernel_rfl) (A := laws_toSplitS.a) (u := laws_toSplitS.u) (fun _ _ h => h) (call := D11) (lp := fun n => orL 3 laws_toSplitS.l3.s (laws_toSplitS.l3.u n) noL) (D11_ok hX) (fun n => (orL_ok (laws_toSplitS.l3_ok hX n) noL_ok)) (fun n v K => by kernel_rfl)
def D12 (n : Nat) : CallF := orC 17 laws_toSplitS.a (laws_toSplitS.u n) (D11 n)
theorem D12_ok : ∀ n g a K, D12 n g a K → callM C X0 n g a K := fun n => orC_ok (laws_toSplitS_ok hX n) (D11_ok hX n)
abbrev spec_l3SameBits.a : List TS := [.a [.o (.int .i64), .o (.dat 155 (.int .u64))], .a [.o (.int .i64), .o (.dat 155 (.int .u64))]]
def spec_l3SameBits.u (n : Nat) (v : VA spec_l3SameBits.a) (K : RES → Prop) : Prop := spec_l3SameBits.c n v.1.1 v.1.2.1 v.2.1.1 v.2.1.2.1 (fun r0 => K ⟨.c (.bool r0), []⟩)
abbrev spec_l3SameBits.l4.s : ST := ⟨[(2, .c (.o (.pbox 2 0))), (3, .c (.o (.pbox 3 0))), (5, .c (.o (.int .i64)))], [], [⟨2, 58, [.o (.int .i64), .o (.dat 155 (.int .u64))], false⟩, ⟨3, 58, [.o (.int .i64), .o (.dat 155 (.int .u64))], false⟩], [], []⟩
def spec_l3SameBits.l4.u (n : Nat) (v : spec_l3SameBits.l4.s.V) (K : X → St → Prop) : Prop := spec_l3SameBits.l4 n v.2.2.1.1 v.2.2.1.2.1 v.2.2.2.1.1 v.2.2.2.1.2.1 v.1.2.2.1 (K (.exit 0) ⟨[], [], [], [], []⟩) (fun y0 => K .ret ⟨[(4, .c (.bool y0))], [], [], [], []⟩)
theorem spec_l3SameBits.l4_ok : ∀ n v K, spec_l3SameBits.l4.u n v K → loopM C X0 n 88 4 (spec_l3SameBits.l4.s.fill v) K :=
  loop_tell hX (fn := Try.f88) (c := bodyOf Try.f88) (a := loopOf Try.f88 4) (li := liOf (C.fi 88).loops 4) (by kernel_rfl) (by kernel_rfl) (of_decide_eq_true rfl) (by kernel_rfl) (by kernel_rfl) (T := spec_l3SameBits.l4.s) (u := spec_l3SameBits.l4.u) (fun _ _ h => h) (call := D12) (lp := fun n => noL) (D12_ok hX) (fun n => noL_ok) (fun n v K => by kernel_rfl)
theorem spec_l3SameBits_ok : ∀ n v K, spec_l3SameBits.u n v K → callM C X0 n 88 (fillA spec_l3SameBits.a v) K :=
  call_tell hX (fn := Try.f88) (c := bodyOf Try.f88) (by kernel_rfl) (by kernel_rfl) (A := spec_l3SameBits.a) (u := spec_l3SameBits.u) (fun _ _ h => h) (call := D12) (lp := fun n => orL 4 spec_l3SameBits.l4.s (spec_l3SameBits.l4.u n) noL) (D12_ok hX) (fun n => (orL_ok (spec_l3SameBits.l4_ok hX n) noL_ok)) (fun n v K => by kernel_rfl)
def D13 (n : Nat) : CallF := orC 88 spec_l3SameBits.a (spec_l3SameBits.u n) (D12 n)
theorem D13_ok : ∀ n g a K, D13 n g a K → callM C X0 n g a K := fun n => orC_ok (spec_l3SameBits_ok hX n) (D12_ok hX n)
abbrev spec_l9SameBar.a : List TS := [.a [.o (.int .i64), .o (.int .i64), .o (.int .i64), .o (.dat 155 (.int .u64))], .a [.o (.int .i64), .o (.int .i64), .o (.int .i64), .o (.dat 155 (.int .u64))]]
def spec_l9SameBar.u (n : Nat) (v : VA spec_l9SameBar.a) (K : RES → Prop) : Prop := spec_l9SameBar.c n v.1.1 v.1.2.1 v.1.2.2.1 v.1.2.2.2.1 v.2.1.1 v.2.1.2.1 v.2.1.2.2.1 v.2.1.2.2.2.1 (fun r0 => K ⟨.c (.bool r0), []⟩)
theorem spec_l9SameBar_ok : ∀ n v K, spec_l9SameBar.u n v K → callM C X0 n 154 (fillA spec_l9SameBar.a v) K :=
  call_tell hX (fn := Try.f154) (c := bodyOf Try.f154) (by kernel_rfl) (by kernel_rfl) (A := spec_l9SameBar.a) (u := spec_l9SameBar.u) (fun _ _ h => h) (call := D13) (lp := fun n => noL) (D13_ok hX) (fun n => noL_ok) (fun n v K => by kernel_rfl)
def D14 (n : Nat) : CallF := orC 154 spec_l9SameBar.a (spec_l9SameBar.u n) (D13 n)
theorem D14_ok : ∀ n g a K, D14 n g a K → callM C X0 n g a K := fun n => orC_ok (spec_l9SameBar_ok hX n) (D13_ok hX n)
abbrev spec_l8CopyBits.a : List TS := [.a [.o (.int .i64), .o (.dat 155 (.int .u64))]]
def spec_l8CopyBits.u (n : Nat) (v : VA spec_l8CopyBits.a) (K : RES → Prop) : Prop := spec_l8CopyBits.c n v.1.1 v.1.2.1 (fun r0 r1 => K ⟨.agg [.int .i64 r0, .row ⟨155, .int .u64, r1, 99, none⟩], []⟩)
theorem spec_l8CopyBits_ok : ∀ n v K, spec_l8CopyBits.u n v K → callM C X0 n 115 (fillA spec_l8CopyBits.a v) K :=
  call_tell hX (fn := Try.f115) (c := bodyOf Try.f115) (by kernel_rfl) (by kernel_rfl) (A := spec_l8CopyBits.a) (u := spec_l8CopyBits.u) (fun _ _ h => h) (call := D14) (lp := fun n => noL) (D14_ok hX) (fun n => noL_ok) (fun n v K => by kernel_rfl)
def D15 (n : Nat) : CallF := orC 115 spec_l8CopyBits.a (spec_l8CopyBits.u n) (D14 n)
theorem D15_ok : ∀ n g a K, D15 n g a K → callM C X0 n g a K := fun n => orC_ok (spec_l8CopyBits_ok hX n) (D14_ok hX n)
abbrev spec_l9Put.a : List TS := [.c (.o (.row 123 (.prod (.int .i64) (.prod (.int .i64) (.prod (.int .i64) (.sl 155 (.int .u64))))) 99)), .a [.o (.int .i64), .o (.int .i64), .o (.int .i64), .o (.dat 155 (.int .u64))]]
def spec_l9Put.u (n : Nat) (v : VA spec_l9Put.a) (K : RES → Prop) : Prop := spec_l9Put.c n v.1 v.2.1.1 v.2.1.2.1 v.2.1.2.2.1 v.2.1.2.2.2.1 (fun r0 => K ⟨.c (.row ⟨123, .prod (.int .i64) (.prod (.int .i64) (.prod (.int .i64) (.sl 155 (.int .u64)))), r0, 99, none⟩), []⟩)
abbrev spec_l9Put.l2.s : ST := ⟨[(0, .c (.o (.own 0))), (3, .c (.o (.pbox 3 0))), (5, .c (.o (.int .i64)))], [⟨0, 123, .prod (.int .i64) (.prod (.int .i64) (.prod (.int .i64) (.sl 155 (.int .u64)))), 99⟩], [⟨3, 123, [.o (.int .i64), .o (.int .i64), .o (.int .i64), .o (.dat 155 (.int .u64))], false⟩], [], []⟩
def spec_l9Put.l2.u (n : Nat) (v : spec_l9Put.l2.s.V) (K : X → St → Prop) : Prop := spec_l9Put.l2 n v.2.1.1 v.2.2.1.1 v.2.2.1.2.1 v.2.2.1.2.2.1 v.2.2.1.2.2.2.1 v.1.2.2.1 (fun y0 y1 y2 y3 y4 => K (.exit 0) ⟨[(0, .c (.own 0)), (3, .c (.pbox 3 0))], [(0, ⟨123, .prod (.int .i64) (.prod (.int .i64) (.prod (.int .i64) (.sl 155 (.int .u64)))), y0, 99, none⟩)], [(3, ⟨123, [.int .i64 y1, .int .i64 y2, .int .i64 y3, .dat 155 (.int .u64) y4], false⟩)], [], []⟩) (fun y0 => K .ret ⟨[(4, .c (.own 0))], [(0, ⟨123, .prod (.int .i64) (.prod (.int .i64) (.prod (.int .i64) (.sl 155 (.int .u64)))), y0, 99, none⟩)], [], [], []⟩)
theorem spec_l9Put.l2_ok : ∀ n v K, spec_l9Put.l2.u n v K → loopM C X0 n 77 2 (spec_l9Put.l2.s.fill v) K :=
  loop_tell hX (fn := Try.f77) (c := bodyOf Try.f77) (a := loopOf Try.f77 2) (li := liOf (C.fi 77).loops 2) (by kernel_rfl) (by kernel_rfl) (of_decide_eq_true rfl) (by kernel_rfl) (by kernel_rfl) (T := spec_l9Put.l2.s) (u := spec_l9Put.l2.u) (fun _ _ h => h) (call := D15) (lp := fun n => noL) (D15_ok hX) (fun n => noL_ok) (fun n v K => by kernel_rfl)
theorem spec_l9Put_ok : ∀ n v K, spec_l9Put.u n v K → callM C X0 n 77 (fillA spec_l9Put.a v) K :=
  call_tell hX (fn := Try.f77) (c := bodyOf Try.f77) (by kernel_rfl) (by kernel_rfl) (A := spec_l9Put.a) (u := spec_l9Put.u) (fun _ _ h => h) (call := D15) (lp := fun n => orL 2 spec_l9Put.l2.s (spec_l9Put.l2.u n) noL) (D15_ok hX) (fun n => (orL_ok (spec_l9Put.l2_ok hX n) noL_ok)) (fun n v K => by kernel_rfl)
def D16 (n : Nat) : CallF := orC 77 spec_l9Put.a (spec_l9Put.u n) (D15 n)
theorem D16_ok : ∀ n g a K, D16 n g a K → callM C X0 n g a K := fun n => orC_ok (spec_l9Put_ok hX n) (D15_ok hX n)
abbrev spec_MustBars.a : List TS := [.c (.o (.dat 120 (.prod (.int .i64) (.prod (.int .i64) (.sl 123 (.prod (.int .i64) (.prod (.int .i64) (.prod (.int .i64) (.sl 155 (.int .u64))))))))))]
def spec_MustBars.u (n : Nat) (v : VA spec_MustBars.a) (K : RES → Prop) : Prop := spec_MustBars.c n v.1 (fun r0 => K ⟨.c (.row ⟨123, .prod (.int .i64) (.prod (.int .i64) (.prod (.int .i64) (.sl 155 (.int .u64)))), r0, 99, none⟩), []⟩)
abbrev spec_MustBars.l3.s : ST := ⟨[(0, .c (.o (.dat 120 (.prod (.int .i64) (.prod (.int .i64) (.sl 123 (.prod (.int .i64) (.prod (.int .i64) (.prod (.int .i64) (.sl 155 (.int .u64))))))))))), (3, .c (.o (.own 96))), (4, .c (.o (.int .i64)))], [⟨96, 123, .prod (.int .i64) (.prod (.int .i64) (.prod (.int .i64) (.sl 155 (.int .u64)))), 99⟩], [], [], []⟩
def spec_MustBars.l3.u (n : Nat) (v : spec_MustBars.l3.s.V) (K : X → St → Prop) : Prop := spec_MustBars.l3 n v.1.1 v.1.2.2.1 v.2.1.1 (fun y0 => K (.exit 0) ⟨[(3, .c (.own 96))], [(96, ⟨123, .prod (.int .i64) (.prod (.int .i64) (.prod (.int .i64) (.sl 155 (.int .u64)))), y0, 99, none⟩)], [], [], []⟩)
theorem spec_MustBars.l3_ok : ∀ n v K, spec_MustBars.l3.u n v K → loopM C X0 n 16 3 (spec_MustBars.l3.s.fill v) K :=
  loop_tell hX (fn := Try.f16) (c := bodyOf Try.f16) (a := loopOf Try.f16 3) (li := liOf (C.fi 16).loops 3) (by kernel_rfl) (by kernel_rfl) (of_decide_eq_true rfl) (by kernel_rfl) (by kernel_rfl) (T := spec_MustBars.l3.s) (u := spec_MustBars.l3.u) (fun _ _ h => h) (call := D16) (lp := fun n => noL) (D16_ok hX) (fun n => noL_ok) (fun n v K => by kernel_rfl)
theorem spec_MustBars_ok : ∀ n v K, spec_MustBars.u n v K → callM C X0 n 16 (fillA spec_MustBars.a v) K :=
  call_tell hX (fn := Try.f16) (c := bodyOf Try.f16) (by kernel_rfl) (by kernel_rfl) (A := spec_MustBars.a) (u := spec_MustBars.u) (fun _ _ h => h) (call := D16) (lp := fun n => orL 3 spec_MustBars.l3.s (spec_MustBars.l3.u n) noL) (D16_ok hX) (fun n => (orL_ok (spec_MustBars.l3_ok hX n) noL_ok)) (fun n v K => by kernel_rfl)
def D17 (n : Nat) : CallF := orC 16 spec_MustBars.a (spec_MustBars.u n) (D16 n)
theorem D17_ok : ∀ n g a K, D17 n g a K → callM C X0 n g a K := fun n => orC_ok (spec_MustBars_ok hX n) (D16_ok hX n)
abbrev slices_Equal_uint64.a : List TS := [.c (.o (.dat 155 (.int .u64))), .c (.o (.dat 155 (.int .u64)))]
def slices_Equal_uint64.u (n : Nat) (v : VA slices_Equal_uint64.a) (K : RES → Prop) : Prop := slices_Equal_uint64.c n v.1 v.2.1 (fun r0 => K ⟨.c (.bool r0), []⟩)
abbrev slices_Equal_uint64.l4.s : ST := ⟨[(0, .c (.o (.dat 155 (.int .u64)))), (1, .c (.o (.dat 155 (.int .u64)))), (12, .c (.o (.int .i64))), (13, .c (.o (.int .i64)))], [], [], [], []⟩
def slices_Equal_uint64.l4.u (n : Nat) (v : slices_Equal_uint64.l4.s.V) (K : X → St → Prop) : Prop := slices_Equal_uint64.l4 n v.1.1 v.1.2.1 v.1.2.2.1 v.1.2.2.2.1 (K (.exit 0) ⟨[], [], [], [], []⟩) (fun y0 => K .ret ⟨[(4, .c (.bool y0))], [], [], [], []⟩)
theorem slices_Equal_uint64.l4_ok : ∀ n v K, slices_Equal_uint64.l4.u n v K → loopM C X0 n 166 4 (slices_Equal_uint64.l4.s.fill v) K :=
  loop_tell hX (fn := Try.f166) (c := bodyOf Try.f166) (a := loopOf Try.f166 4) (li := liOf (C.fi 166).loops 4) (by kernel_rfl) (by kernel_rfl) (of_decide_eq_true rfl) (by kernel_rfl) (by kernel_rfl) (T := slices_Equal_uint64.l4.s) (u := slices_Equal_uint64.l4.u) (fun _ _ h => h) (call := D17) (lp := fun n => noL) (D17_ok hX) (fun n => noL_ok) (fun n v K => by kernel_rfl)
theorem slices_Equal_uint64_ok : ∀ n v K, slices_Equal_uint64.u n v K → callM C X0 n 166 (fillA slices_Equal_uint64.a v) K :=
  call_tell hX (fn := Try.f166) (c := bodyOf Try.f166) (by kernel_rfl) (by kernel_rfl) (A := slices_Equal_uint64.a) (u := slices_Equal_uint64.u) (fun _ _ h => h) (call := D17) (lp := fun n => orL 4 slices_Equal_uint64.l4.s (slices_Equal_uint64.l4.u n) noL) (D17_ok hX) (fun n => (orL_ok (slices_Equal_uint64.l4_ok hX n) noL_ok)) (fun n v K => by kernel_rfl)
def D18 (n : Nat) : CallF := orC 166 slices_Equal_uint64.a (slices_Equal_uint64.u n) (D17 n)
theorem D18_ok : ∀ n g a K, D18 n g a K → callM C X0 n g a K := fun n => orC_ok (slices_Equal_uint64_ok hX n) (D17_ok hX n)
abbrev impl_Bits_same.a : List TS := [.a [.o (.int .i64), .o (.dat 155 (.int .u64))], .a [.o (.int .i64), .o (.dat 155 (.int .u64))]]
def impl_Bits_same.u (n : Nat) (v : VA impl_Bits_same.a) (K : RES → Prop) : Prop := impl_Bits_same.c n v.1.1 v.1.2.1 v.2.1.1 v.2.1.2.1 (fun r0 => K ⟨.c (.bool r0), []⟩)
theorem impl_Bits_same_ok : ∀ n v K, impl_Bits_same.u n v K → callM C X0 n 96 (fillA impl_Bits_same.a v) K :=
  call_tell hX (fn := Try.f96) (c := bodyOf Try.f96) (by kernel_rfl) (by kernel_rfl) (A := impl_Bits_same.a) (u := impl_Bits_same.u) (fun _ _ h => h) (call := D18) (lp := fun n => noL) (D18_ok hX) (fun n => noL_ok) (fun n v K => by kernel_rfl)
def D19 (n : Nat) : CallF := orC 96 impl_Bits_same.a (impl_Bits_same.u n) (D18 n)
theorem D19_ok : ∀ n g a K, D19 n g a K → callM C X0 n g a K := fun n => orC_ok (impl_Bits_same_ok hX n) (D18_ok hX n)
abbrev impl_sameBar.a : List TS := [.a [.o (.int .i64), .o (.int .i64), .o (.int .i64), .o (.dat 155 (.int .u64))], .a [.o (.int .i64), .o (.int .i64), .o (.int .i64), .o (.dat 155 (.int .u64))]]
def impl_sameBar.u (n : Nat) (v : VA impl_sameBar.a) (K : RES → Prop) : Prop := impl_sameBar.c n v.1.1 v.1.2.1 v.1.2.2.1 v.1.2.2.2.1 v.2.1.1 v.2.1.2.1 v.2.1.2.2.1 v.2.1.2.2.2.1 (fun r0 => K ⟨.c (.bool r0), []⟩)
theorem impl_sameBar_ok : ∀ n v K, impl_sameBar.u n v K → callM C X0 n 156 (fillA impl_sameBar.a v) K :=
  call_tell hX (fn := Try.f156) (c := bodyOf Try.f156) (by kernel_rfl) (by kernel_rfl) (A := impl_sameBar.a) (u := impl_sameBar.u) (fun _ _ h => h) (call := D19) (lp := fun n => noL) (D19_ok hX) (fun n => noL_ok) (fun n v K => by kernel_rfl)
def D20 (n : Nat) : CallF := orC 156 impl_sameBar.a (impl_sameBar.u n) (D19 n)
theorem D20_ok : ∀ n g a K, D20 n g a K → callM C X0 n g a K := fun n => orC_ok (impl_sameBar_ok hX n) (D19_ok hX n)
abbrev impl_addBar_1.a : List TS := [.a [.o (.int .i64), .o (.int .i64), .o (.int .i64), .o (.dat 155 (.int .u64))], .c (.o (.pdat 123 (.prod (.int .i64) (.prod (.int .i64) (.prod (.int .i64) (.sl 155 (.int .u64))))) 0))]
def impl_addBar_1.u (n : Nat) (v : VA impl_addBar_1.a) (K : RES → Prop) : Prop := impl_addBar_1.c n v.1.1 v.1.2.1 v.1.2.2.1 v.1.2.2.2.1 v.2.1 (fun r0 => K ⟨.c (.bool r0), []⟩)
theorem impl_addBar_1_ok : ∀ n v K, impl_addBar_1.u n v K → callM C X0 n 155 (fillA impl_addBar_1.a v) K :=
  call_tell hX (fn := Try.f155) (c := bodyOf Try.f155) (by kernel_rfl) (by kernel_rfl) (A := impl_addBar_1.a) (u := impl_addBar_1.u) (fun _ _ h => h) (call := D20) (lp := fun n => noL) (D20_ok hX) (fun n => noL_ok) (fun n v K => by kernel_rfl)
def D21 (n : Nat) : CallF := orC 155 impl_addBar_1.a (impl_addBar_1.u n) (D20 n)
theorem D21_ok : ∀ n g a K, D21 n g a K → callM C X0 n g a K := fun n => orC_ok (impl_addBar_1_ok hX n) (D20_ok hX n)
abbrev slices_IndexFunc_Bar__impl_addBar_1.a : List TS := [.c (.o (.dat 123 (.prod (.int .i64) (.prod (.int .i64) (.prod (.int .i64) (.sl 155 (.int .u64))))))), .c (.fn 155 [(false, 1)] 0 [.pdat 123 (.prod (.int .i64) (.prod (.int .i64) (.prod (.int .i64) (.sl 155 (.int .u64))))) 0])]
def slices_IndexFunc_Bar__impl_addBar_1.u (n : Nat) (v : VA slices_IndexFunc_Bar__impl_addBar_1.a) (K : RES → Prop) : Prop := slices_IndexFunc_Bar__impl_addBar_1.c n v.1 v.2.1.1 (fun r0 => K ⟨.c (.int .i64 r0), []⟩)
abbrev slices_IndexFunc_Bar__impl_addBar_1.l2.s : ST := ⟨[(0, .c (.o (.dat 123 (.prod (.int .i64) (.prod (.int .i64) (.prod (.int .i64) (.sl 155 (.int .u64)))))))), (1, .c (.fn 155 [(false, 1)] 0 [.pdat 123 (.prod (.int .i64) (.prod (.int .i64) (.prod (.int .i64) (.sl 155 (.int .u64))))) 0])), (7, .c (.o (.int .i64))), (8, .c (.o (.int .i64)))], [], [], [], []⟩
def slices_IndexFunc_Bar__impl_addBar_1.l2.u (n : Nat) (v : slices_IndexFunc_Bar__impl_addBar_1.l2.s.V) (K : X → St → Prop) : Prop := slices_IndexFunc_Bar__impl_addBar_1.l2 n v.1.1 v.1.2.1.1 v.1.2.2.1 v.1.2.2.2.1 (K (.exit 0) ⟨[], [], [], [], []⟩) (fun y0 => K .ret ⟨[(4, .c (.int .i64 y0))], [], [], [], []⟩)
theorem slices_IndexFunc_Bar__impl_addBar_1.l2_ok : ∀ n v K, slices_IndexFunc_Bar__impl_addBar_1.l2.u n v K → loopM C X0 n 165 2 (slices_IndexFunc_Bar__impl_addBar_1.l2.s.fill v) K :=
  loop_tell hX (fn := Try.f165) (c := bodyOf Try.f165) (a := loopOf Try.f165 2) (li := liOf (C.fi 165).loops 2) (by kernel_rfl) (by kernel_rfl) (of_decide_eq_true rfl) (by kernel_rfl) (by kernel_rfl) (T := slices_IndexFunc_Bar__impl_addBar_1.l2.s) (u := slices_IndexFunc_Bar__impl_addBar_1.l2.u) (fun _ _ h => h) (call := D21) (lp := fun n => noL) (D21_ok hX) (fun n => noL_ok) (fun n v K => by kernel_rfl)
theorem slices_IndexFunc_Bar__impl_addBar_1_ok : ∀ n v K, slices_IndexFunc_Bar__impl_addBar_1.u n v K → callM C X0 n 165 (fillA slices_IndexFunc_Bar__impl_addBar_1.a v) K :=
  call_tell hX (fn := Try.f165) (c := bodyOf Try.f165) (by kernel_rfl) (by kernel_rfl) (A := slices_IndexFunc_Bar__impl_addBar_1.a) (u := slices_IndexFunc_Bar__impl_addBar_1.u) (fun _ _ h => h) (call := D21) (lp := fun n => orL 2 slices_IndexFunc_Bar__impl_addBar_1.l2.s (slices_IndexFunc_Bar__impl_addBar_1.l2.u n) noL) (D21_ok hX) (fun n => (orL_ok (slices_IndexFunc_Bar__impl_addBar_1.l2_ok hX n) noL_ok)) (fun n v K => by kernel_rfl)
def D22 (n : Nat) : CallF := orC 165 slices_IndexFunc_Bar__impl_addBar_1.a (slices_IndexFunc_Bar__impl_addBar_1.u n) (D21 n)
theorem D22_ok : ∀ n g a K, D22 n g a K → callM C X0 n g a K := fun n => orC_ok (slices_IndexFunc_Bar__impl_addBar_1_ok hX n) (D21_ok hX n)
abbrev slices_ContainsFunc_Bar__impl_addBar_1.a : List TS := [.c (.o (.dat 123 (.prod (.int .i64) (.prod (.int .i64) (.prod (.int .i64) (.sl 155 (.int .u64))))))), .c (.fn 155 [(false, 1)] 0 [.pdat 123 (.prod (.int .i64) (.prod (.int .i64) (.prod (.int .i64) (.sl 155 (.int .u64))))) 0])]
def slices_ContainsFunc_Bar__impl_addBar_1.u (n : Nat) (v : VA slices_ContainsFunc_Bar__impl_addBar_1.a) (K : RES → Prop) : Prop := slices_ContainsFunc_Bar__impl_addBar_1.c n v.1 v.2.1.1 (fun r0 => K ⟨.c (.bool r0), []⟩)
theorem slices_ContainsFunc_Bar__impl_addBar_1_ok : ∀ n v K, slices_ContainsFunc_Bar__impl_addBar_1.u n v K → callM C X0 n 94 (fillA slices_ContainsFunc_Bar__impl_addBar_1.a v) K :=
  call_tell hX (fn := Try.f94) (c := bodyOf Try.f94) (by kernel_rfl) (by kernel_rfl) (A := slices_ContainsFunc_Bar__impl_addBar_1.a) (u := slices_ContainsFunc_Bar__impl_addBar_1.u) (fun _ _ h => h) (call := D22) (lp := fun n => noL) (D22_ok hX) (fun n => noL_ok) (fun n v K => by kernel_rfl)
def D23 (n : Nat) : CallF := orC 94 slices_ContainsFunc_Bar__impl_addBar_1.a (slices_ContainsFunc_Bar__impl_addBar_1.u n) (D22 n)
theorem D23_ok : ∀ n g a K, D23 n g a K → callM C X0 n g a K := fun n => orC_ok (slices_ContainsFunc_Bar__impl_addBar_1_ok hX n) (D22_ok hX n)
abbrev slices_Clone_uint64.a : List TS := [.c (.o (.dat 155 (.int .u64)))]
def slices_Clone_uint64.u (n : Nat) (v : VA slices_Clone_uint64.a) (K : RES → Prop) : Prop := slices_Clone_uint64.c n v.1 (fun r0 => K ⟨.c (.row ⟨155, .int .u64, r0, 99, none⟩), []⟩)
theorem slices_Clone_uint64_ok : ∀ n v K, slices_Clone_uint64.u n v K → callM C X0 n 181 (fillA slices_Clone_uint64.a v) K :=
  call_tell hX (fn := Try.f181) (c := bodyOf Try.f181) (by kernel_rfl) (by kernel_rfl) (A := slices_Clone_uint64.a) (u := slices_Clone_uint64.u) (fun _ _ h => h) (call := D23) (lp := fun n => noL) (D23_ok hX) (fun n => noL_ok) (fun n v K => by kernel_rfl)
def D24 (n : Nat) : CallF := orC 181 slices_Clone_uint64.a (slices_Clone_uint64.u n) (D23 n)
theorem D24_ok : ∀ n g a K, D24 n g a K → callM C X0 n g a K := fun n => orC_ok (slices_Clone_uint64_ok hX n) (D23_ok hX n)
abbrev impl_cloneBits.a : List TS := [.a [.o (.int .i64), .o (.dat 155 (.int .u64))]]
def impl_cloneBits.u (n : Nat) (v : VA impl_cloneBits.a) (K : RES → Prop) : Prop := impl_cloneBits.c n v.1.1 v.1.2.1 (fun r0 r1 => K ⟨.agg [.int .i64 r0, .row ⟨155, .int .u64, r1, 99, none⟩], []⟩)
theorem impl_cloneBits_ok : ∀ n v K, impl_cloneBits.u n v K → callM C X0 n 118 (fillA impl_cloneBits.a v) K :=
  call_tell hX (fn := Try.f118) (c := bodyOf Try.f118) (by kernel_rfl) (by kernel_rfl) (A := impl_cloneBits.a) (u := impl_cloneBits.u) (fun _ _ h => h) (call := D24) (lp := fun n => noL) (D24_ok hX) (fun n => noL_ok) (fun n v K => by kernel_rfl)
def D25 (n : Nat) : CallF := orC 118 impl_cloneBits.a (impl_cloneBits.u n) (D24 n)
theorem D25_ok : ∀ n g a K, D25 n g a K → callM C X0 n g a K := fun n => orC_ok (impl_cloneBits_ok hX n) (D24_ok hX n)
abbrev impl_addBar.a : List TS := [.c (.o (.row 123 (.prod (.int .i64) (.prod (.int .i64) (.prod (.int .i64) (.sl 155 (.int .u64))))) 99)), .a [.o (.int .i64), .o (.int .i64), .o (.int .i64), .o (.dat 155 (.int .u64))]]
def impl_addBar.u (n : Nat) (v : VA impl_addBar.a) (K : RES → Prop) : Prop := impl_addBar.c n v.1 v.2.1.1 v.2.1.2.1 v.2.1.2.2.1 v.2.1.2.2.2.1 (fun r0 => K ⟨.c (.row ⟨123, .prod (.int .i64) (.prod (.int .i64) (.prod (.int .i64) (.sl 155 (.int .u64)))), r0, 99, none⟩), []⟩)
theorem impl_addBar_ok : ∀ n v K, impl_addBar.u n v K → callM C X0 n 79 (fillA impl_addBar.a v) K :=
  call_tell hX (fn := Try.f79) (c := bodyOf Try.f79) (by kernel_rfl) (by kernel_rfl) (A := impl_addBar.a) (u := impl_addBar.u) (fun _ _ h => h) (call := D25) (lp := fun n => noL) (D25_ok hX) (fun n => noL_ok) (fun n v K => by kernel_rfl)
def D26 (n : Nat) : CallF := orC 79 impl_addBar.a (impl_addBar.u n) (D25 n)
theorem D26_ok : ∀ n g a K, D26 n g a K → callM C X0 n g a K := fun n => orC_ok (impl_addBar_ok hX n) (D25_ok hX n)
abbrev impl_MustBars.a : List TS := [.c (.o (.dat 120 (.prod (.int .i64) (.prod (.int .i64) (.sl 123 (.prod (.int .i64) (.prod (.int .i64) (.prod (.int .i64) (.sl 155 (.int .u64))))))))))]
def impl_MustBars.u (n : Nat) (v : VA impl_MustBars.a) (K : RES → Prop) : Prop := impl_MustBars.c n v.1 (fun r0 => K ⟨.c (.row ⟨123, .prod (.int .i64) (.prod (.int .i64) (.prod (.int .i64) (.sl 155 (.int .u64)))), r0, 99, none⟩), []⟩)
abbrev impl_MustBars.l3.s : ST := ⟨[(3, .c (.o (.own 96))), (7, .c (.o (.dat 120 (.prod (.int .i64) (.prod (.int .i64) (.sl 123 (.prod (.int .i64) (.prod (.int .i64) (.prod (.int .i64) (.sl 155 (.int .u64))))))))))), (8, .c (.o (.int .i64))), (9, .c (.o (.int .i64)))], [⟨96, 123, .prod (.int .i64) (.prod (.int .i64) (.prod (.int .i64) (.sl 155 (.int .u64)))), 99⟩], [], [], []⟩
def impl_MustBars.l3.u (n : Nat) (v : impl_MustBars.l3.s.V) (K : X → St → Prop) : Prop := impl_MustBars.l3 n v.1.2.1 v.1.2.2.1 v.1.2.2.2.1 v.2.1.1 (fun y0 => K (.exit 0) ⟨[(3, .c (.own 96))], [(96, ⟨123, .prod (.int .i64) (.prod (.int .i64) (.prod (.int .i64) (.sl 155 (.int .u64)))), y0, 99, none⟩)], [], [], []⟩)
theorem impl_MustBars.l3_ok : ∀ n v K, impl_MustBars.l3.u n v K → loopM C X0 n 18 3 (impl_MustBars.l3.s.fill v) K :=
  loop_tell hX (fn := Try.f18) (c := bodyOf Try.f18) (a := loopOf Try.f18 3) (li := liOf (C.fi 18).loops 3) (by kernel_rfl) (by kernel_rfl) (of_decide_eq_true rfl) (by kernel_rfl) (by kernel_rfl) (T := impl_MustBars.l3.s) (u := impl_MustBars.l3.u) (fun _ _ h => h) (call := D26) (lp := fun n => noL) (D26_ok hX) (fun n => noL_ok) (fun n v K => by kernel_rfl)
theorem impl_MustBars_ok : ∀ n v K, impl_MustBars.u n v K → callM C X0 n 18 (fillA impl_MustBars.a v) K :=
  call_tell hX (fn := Try.f18) (c := bodyOf Try.f18) (by kernel_rfl) (by kernel_rfl) (A := impl_MustBars.a) (u := impl_MustBars.u) (fun _ _ h => h) (call := D26) (lp := fun n => orL 3 impl_MustBars.l3.s (impl_MustBars.l3.u n) noL) (D26_ok hX) (fun n => (orL_ok (impl_MustBars.l3_ok hX n) noL_ok)) (fun n v K => by kernel_rfl)
def D27 (n : Nat) : CallF := orC 18 impl_MustBars.a (impl_MustBars.u n) (D26 n)
theorem D27_ok : ∀ n g a K, D27 n g a K → callM C X0 n g a K := fun n => orC_ok (impl_MustBars_ok hX n) (D26_ok hX n)
abbrev laws_eqUint64S.a : List TS := [.c (.o (.dat 155 (.int .u64))), .c (.o (.dat 155 (.int .u64)))]
def laws_eqUint64S.u (n : Nat) (v : VA laws_eqUint64S.a) (K : RES → Prop) : Prop := laws_eqUint64S.c n v.1 v.2.1 (fun r0 => K ⟨.c (.bool r0), []⟩)
abbrev laws_eqUint64S.l4.s : ST := ⟨[(0, .c (.o (.dat 155 (.int .u64)))), (1, .c (.o (.dat 155 (.int .u64)))), (5, .c (.o (.int .i64)))], [], [], [], []⟩
def laws_eqUint64S.l4.u (n : Nat) (v : laws_eqUint64S.l4.s.V) (K : X → St → Prop) : Prop := laws_eqUint64S.l4 n v.1.1 v.1.2.1 v.1.2.2.1 (K (.exit 0) ⟨[], [], [], [], []⟩) (fun y0 => K .ret ⟨[(4, .c (.bool y0))], [], [], [], []⟩)
theorem laws_eqUint64S.l4_ok : ∀ n v K, laws_eqUint64S.l4.u n v K → loopM C X0 n 167 4 (laws_eqUint64S.l4.s.fill v) K :=
  loop_tell hX (fn := Try.f167) (c := bodyOf Try.f167) (a := loopOf Try.f167 4) (li := liOf (C.fi 167).loops 4) (by kernel_rfl) (by kernel_rfl) (of_decide_eq_true rfl) (by kernel_rfl) (by kernel_rfl) (T := laws_eqUint64S.l4.s) (u := laws_eqUint64S.l4.u) (fun _ _ h => h) (call := D27) (lp := fun n => noL) (D27_ok hX) (fun n => noL_ok) (fun n v K => by kernel_rfl)
theorem laws_eqUint64S_ok : ∀ n v K, laws_eqUint64S.u n v K → callM C X0 n 167 (fillA laws_eqUint64S.a v) K :=
  call_tell hX (fn := Try.f167) (c := bodyOf Try.f167) (by kernel_rfl) (by kernel_rfl) (A := laws_eqUint64S.a) (u := laws_eqUint64S.u) (fun _ _ h => h) (call := D27) (lp := fun n => orL 4 laws_eqUint64S.l4.s (laws_eqUint64S.l4.u n) noL) (D27_ok hX) (fun n => (orL_ok (laws_eqUint64S.l4_ok hX n) noL_ok)) (fun n v K => by kernel_rfl)
def D28 (n : Nat) : CallF := orC 167 laws_eqUint64S.a (laws_eqUint64S.u n) (D27 n)
theorem D28_ok : ∀ n g a K, D28 n g a K → callM C X0 n g a K := fun n => orC_ok (laws_eqUint64S_ok hX n) (D27_ok hX n)
abbrev laws_eqBits.a : List TS := [.a [.o (.int .i64), .o (.dat 155 (.int .u64))], .a [.o (.int .i64), .o (.dat 155 (.int .u64))]]
def laws_eqBits.u (n : Nat) (v : VA laws_eqBits.a) (K : RES → Prop) : Prop := laws_eqBits.c n v.1.1 v.1.2.1 v.2.1.1 v.2.1.2.1 (fun r0 => K ⟨.c (.bool r0), []⟩)
theorem laws_eqBits_ok : ∀ n v K, laws_eqBits.u n v K → callM C X0 n 98 (fillA laws_eqBits.a v) K :=
  call_tell hX (fn := Try.f98) (c := bodyOf Try.f98) (by kernel_rfl) (by kernel_rfl) (A := laws_eqBits.a) (u := laws_eqBits.u) (fun _ _ h => h) (call := D28) (lp := fun n => noL) (D28_ok hX) (fun n => noL_ok) (fun n v K => by kernel_rfl)
def D29 (n : Nat) : CallF := orC 98 laws_eqBits.a (laws_eqBits.u n) (D28 n)
theorem D29_ok : ∀ n g a K, D29 n g a K → callM C X0 n g a K := fun n => orC_ok (laws_eqBits_ok hX n) (D28_ok hX n)
abbrev laws_eqBar.a : List TS := [.a [.o (.int .i64), .o (.int .i64), .o (.int .i64), .o (.dat 155 (.int .u64))], .a [.o (.int .i64), .o (.int .i64), .o (.int .i64), .o (.dat 155 (.int .u64))]]
def laws_eqBar.u (n : Nat) (v : VA laws_eqBar.a) (K : RES → Prop) : Prop := laws_eqBar.c n v.1.1 v.1.2.1 v.1.2.2.1 v.1.2.2.2.1 v.2.1.1 v.2.1.2.1 v.2.1.2.2.1 v.2.1.2.2.2.1 (fun r0 => K ⟨.c (.bool r0), []⟩)
theorem laws_eqBar_ok : ∀ n v K, laws_eqBar.u n v K → callM C X0 n 80 (fillA laws_eqBar.a v) K :=
  call_tell hX (fn := Try.f80) (c := bodyOf Try.f80) (by kernel_rfl) (by kernel_rfl) (A := laws_eqBar.a) (u := laws_eqBar.u) (fun _ _ h => h) (call := D29) (lp := fun n => noL) (D29_ok hX) (fun n => noL_ok) (fun n v K => by kernel_rfl)
def D30 (n : Nat) : CallF := orC 80 laws_eqBar.a (laws_eqBar.u n) (D29 n)
theorem D30_ok : ∀ n g a K, D30 n g a K → callM C X0 n g a K := fun n => orC_ok (laws_eqBar_ok hX n) (D29_ok hX n)
abbrev laws_eqBarS.a : List TS := [.c (.o (.dat 123 (.prod (.int .i64) (.prod (.int .i64) (.prod (.int .i64) (.sl 155 (.int .u64))))))), .c (.o (.dat 123 (.prod (.int .i64) (.prod (.int .i64) (.prod (.int .i64) (.sl 155 (.int .u64)))))))]
def laws_eqBarS.u (n : Nat) (v : VA laws_eqBarS.a) (K : RES → Prop) : Prop := laws_eqBarS.c n v.1 v.2.1 (fun r0 => K ⟨.c (.bool r0), []⟩)
abbrev laws_eqBarS.l4.s : ST := ⟨[(0, .c (.o (.dat 123 (.prod (.int .i64) (.prod (.int .i64) (.prod (.int .i64) (.sl 155 (.int .u64)))))))), (1, .c (.o (.dat 123 (.prod (.int .i64) (.prod (.int .i64) (.prod (.int .i64) (.sl 155 (.int .u64)))))))), (5, .c (.o (.int .i64)))], [], [], [], []⟩
def laws_eqBarS.l4.u (n : Nat) (v : laws_eqBarS.l4.s.V) (K : X → St → Prop) : Prop := laws_eqBarS.l4 n v.1.1 v.1.2.1 v.1.2.2.1 (K (.exit 0) ⟨[], [], [], [], []⟩) (fun y0 => K .ret ⟨[(4, .c (.bool y0))], [], [], [], []⟩)
theorem laws_eqBarS.l4_ok : ∀ n v K, laws_eqBarS.l4.u n v K → loopM C X0 n 19 4 (laws_eqBarS.l4.s.fill v) K :=
  loop_tell hX (fn := Try.f19) (c := bodyOf Try.f19) (a := loopOf Try.f19 4) (li := liOf (C.fi 19).loops 4) (by kernel_rfl) (by kernel_rfl) (of_decide_eq_true rfl) (by kernel_rfl) (by kernel_rfl) (T := laws_eqBarS.l4.s) (u := laws_eqBarS.l4.u) (fun _ _ h => h) (call := D30) (lp := fun n => noL) (D30_ok hX) (fun n => noL_ok) (fun n v K => by kernel_rfl)
theorem laws_eqBarS_ok : ∀ n v K, laws_eqBarS.u n v K → callM C X0 n 19 (fillA laws_eqBarS.a v) K :=
  call_tell hX (fn := Try.f19) (c := bodyOf Try.f19) (by kernel_rfl) (by kernel_rfl) (A := laws_eqBarS.a) (u := laws_eqBarS.u) (fun _ _ h => h) (call := D30) (lp := fun n => orL 4 laws_eqBarS.l4.s (laws_eqBarS.l4.u n) noL) (D30_ok hX) (fun n => (orL_ok (laws_eqBarS.l4_ok hX n) noL_ok)) (fun n v K => by kernel_rfl)
def D31 (n : Nat) : CallF := orC 19 laws_eqBarS.a (laws_eqBarS.u n) (D30 n)
theorem D31_ok : ∀ n g a K, D31 n g a K → callM C X0 n g a K := fun n => orC_ok (laws_eqBarS_ok hX n) (D30_ok hX n)
abbrev laws_eqSplit.a : List TS := [.a [.o (.int .i64), .o (.int .i64), .o (.dat 123 (.prod (.int .i64) (.prod (.int .i64) (.prod (.int .i64) (.sl 155 (.int .u64))))))], .a [.o (.int .i64), .o (.int .i64), .o (.dat 123 (.prod (.int .i64) (.prod (.int .i64) (.prod (.int .i64) (.sl 155 (.int .u64))))))]]
def laws_eqSplit.u (n : Nat) (v : VA laws_eqSplit.a) (K : RES → Prop) : Prop := laws_eqSplit.c n v.1.1 v.1.2.1 v.1.2.2.1 v.2.1.1 v.2.1.2.1 v.2.1.2.2.1 (fun r0 => K ⟨.c (.bool r0), []⟩)
theorem laws_eqSplit_ok : ∀ n v K, laws_eqSplit.u n v K → callM C X0 n 81 (fillA laws_eqSplit.a v) K :=
  call_tell hX (fn := Try.f81) (c := bodyOf Try.f81) (by kernel_rfl) (by kernel_rfl) (A := laws_eqSplit.a) (u := laws_eqSplit.u) (fun _ _ h => h) (call := D31) (lp := fun n => noL) (D31_ok hX) (fun n => noL_ok) (fun n v K => by kernel_rfl)
def D32 (n : Nat) : CallF := orC 81 laws_eqSplit.a (laws_eqSplit.u n) (D31 n)
theorem D32_ok : ∀ n g a K, D32 n g a K → callM C X0 n g a K := fun n => orC_ok (laws_eqSplit_ok hX n) (D31_ok hX n)
abbrev laws_eqSplitS.a : List TS := [.c (.o (.dat 120 (.prod (.int .i64) (.prod (.int .i64) (.sl 123 (.prod (.int .i64) (.prod (.int .i64) (.prod (.int .i64) (.sl 155 (.int .u64)))))))))), .c (.o (.dat 120 (.prod (.int .i64) (.prod (.int .i64) (.sl 123 (.prod (.int .i64) (.prod (.int .i64) (.prod (.int .i64) (.sl 155 (.int .u64))))))))))]
def laws_eqSplitS.u (n : Nat) (v : VA laws_eqSplitS.a) (K : RES → Prop) : Prop := laws_eqSplitS.c n v.1 v.2.1 (fun r0 => K ⟨.c (.bool r0), []⟩)
abbrev laws_eqSplitS.l4.s : ST := ⟨[(0, .c (.o (.dat 120 (.prod (.int .i64) (.prod (.int .i64) (.sl 123 (.prod (.int .i64) (.prod (.int .i64) (.prod (.int .i64) (.sl 155 (.int .u64))))))))))), (1, .c (.o (.dat 120 (.prod (.int .i64) (.prod (.int .i64) (.sl 123 (.prod (.int .i64) (.prod (.int .i64) (.prod (.int .i64) (.sl 155 (.int .u64))))))))))), (5, .c (.o (.int .i64)))], [], [], [], []⟩
def laws_eqSplitS.l4.u (n : Nat) (v : laws_eqSplitS.l4.s.V) (K : X → St → Prop) : Prop := laws_eqSplitS.l4 n v.1.1 v.1.2.1 v.1.2.2.1 (K (.exit 0) ⟨[], [], [], [], []⟩) (fun y0 => K .ret ⟨[(4, .c (.bool y0))], [], [], [], []⟩)
theorem laws_eqSplitS.l4_ok : ∀ n v K, laws_eqSplitS.l4.u n v K → loopM C X0 n 20 4 (laws_eqSplitS.l4.s.fill v) K :=
  loop_tell hX (fn := Try.f20) (c := bodyOf Try.f20) (a := loopOf Try.f20 4) (li := liOf (C.fi 20).loops 4) (by kernel_rfl) (by kernel_rfl) (of_decide_eq_true rfl) (by kernel_rfl) (by kernel_rfl) (T := laws_eqSplitS.l4.s) (u := laws_eqSplitS.l4.u) (fun _ _ h => h) (call := D32) (lp := fun n => noL) (D32_ok hX) (fun n => noL_ok) (fun n v K => by kernel_rfl)
theorem laws_eqSplitS_ok : ∀ n v K, laws_eqSplitS.u n v K → callM C X0 n 20 (fillA laws_eqSplitS.a v) K :=
  call_tell hX (fn := Try.f20) (c := bodyOf Try.f20) (by kernel_rfl) (by kernel_rfl) (A := laws_eqSplitS.a) (u := laws_eqSplitS.u) (fun _ _ h => h) (call := D32) (lp := fun n => orL 4 laws_eqSplitS.l4.s (laws_eqSplitS.l4.u n) noL) (D32_ok hX) (fun n => (orL_ok (laws_eqSplitS.l4_ok hX n) noL_ok)) (fun n v K => by kernel_rfl)
def D33 (n : Nat) : CallF := orC 20 laws_eqSplitS.a (laws_eqSplitS.u n) (D32 n)
theorem D33_ok : ∀ n g a K, D33 n g a K → callM C X0 n g a K := fun n => orC_ok (laws_eqSplitS_ok hX n) (D32_ok hX n)
abbrev laws_markUint64S.a : List TS := [.c (.o (.row 155 (.int .u64) 97)), .c (.o (.int .i64))]
def laws_markUint64S.u (n : Nat) (v : VA laws_markUint64S.a) (K : RES → Prop) : Prop := laws_markUint64S.c n v.1 v.2.1 (fun r0 r1 => K ⟨.c (.int .i64 r0), [[.row ⟨155, .int .u64, r1, 97, none⟩]]⟩)
abbrev laws_markUint64S.l2.s : ST := ⟨[(0, .c (.o (.own 0))), (1, .c (.o (.int .i64))), (5, .c (.o (.int .i64)))], [⟨0, 155, .int .u64, 97⟩], [], [0], []⟩
def laws_markUint64S.l2.u (n : Nat) (v : laws_markUint64S.l2.s.V) (K : X → St → Prop) : Prop := laws_markUint64S.l2 n v.1.2.1 v.1.2.2.1 v.2.1.1 (fun y0 y1 => K (.exit 0) ⟨[(1, .c (.int .i64 y0))], [(0, ⟨155, .int .u64, y1, 97, none⟩)], [], [0], []⟩)
theorem laws_markUint64S.l2_ok : ∀ n v K, laws_markUint64S.l2.u n v K → loopM C X0 n 82 2 (laws_markUint64S.l2.s.fill v) K :=
  loop_tell hX (fn := Try.f82) (c := bodyOf Try.f82) (a := loopOf Try.f82 2) (li := liOf (C.fi 82).loops 2) (by kernel_rfl) (by kernel_rfl) (of_decide_eq_true rfl) (by kernel_rfl) (by kernel_rfl) (T := laws_markUint64S.l2.s) (u := laws_markUint64S.l2.u) (fun _ _ h => h) (call := D33) (lp := fun n => noL) (D33_ok hX) (fun n => noL_ok) (fun n v K => by kernel_rfl)
theorem laws_markUint64S_ok : ∀ n v K, laws_markUint64S.u n v K → callM C X0 n 82 (fillA laws_markUint64S.a v) K :=
  call_tell hX (fn := Try.f82) (c := bodyOf Try.f82) (by kernel_rfl) (by kernel_rfl) (A := laws_markUint64S.a) (u := laws_markUint64S.u) (fun _ _ h => h) (call := D33) (lp := fun n => orL 2 laws_markUint64S.l2.s (laws_markUint64S.l2.u n) noL) (D33_ok hX) (fun n => (orL_ok (laws_markUint64S.l2_ok hX n) noL_ok)) (fun n v K => by kernel_rfl)
def D34 (n : Nat) : CallF := orC 82 laws_markUint64S.a (laws_markUint64S.u n) (D33 n)
theorem D34_ok : ∀ n g a K, D34 n g a K → callM C X0 n g a K := fun n => orC_ok (laws_markUint64S_ok hX n) (D33_ok hX n)
abbrev laws_markBarS.a : List TS := [.c (.o (.row 123 (.prod (.int .i64) (.prod (.int .i64) (.prod (.int .i64) (.sl 155 (.int .u64))))) 98)), .c (.o (.int .i64))]
def laws_markBarS.u (n : Nat) (v : VA laws_markBarS.a) (K : RES → Prop) : Prop := laws_markBarS.c n v.1 v.2.1 (fun r0 r1 => K ⟨.c (.int .i64 r0), [[.row ⟨123, .prod (.int .i64) (.prod (.int .i64) (.prod (.int .i64) (.sl 155 (.int .u64)))), r1, 98, none⟩]]⟩)
abbrev laws_markBarS.l2.s : ST := ⟨[(0, .c (.o (.own 0))), (1, .c (.o (.int .i64))), (5, .c (.o (.int .i64)))], [⟨0, 123, .prod (.int .i64) (.prod (.int .i64) (.prod (.int .i64) (.sl 155 (.int .u64)))), 98⟩], [], [0], []⟩
def laws_markBarS.l2.u (n : Nat) (v : laws_markBarS.l2.s.V) (K : X → St → Prop) : Prop := laws_markBarS.l2 n v.1.2.1 v.1.2.2.1 v.2.1.1 (fun y0 y1 => K (.exit 0) ⟨[(1, .c (.int .i64 y0))], [(0, ⟨123, .prod (.int .i64) (.prod (.int .i64) (.prod (.int .i64) (.sl 155 (.int .u64)))), y1, 98, none⟩)], [], [0], []⟩)
theorem laws_markBarS.l2_ok : ∀ n v K, laws_markBarS.l2.u n v K → loopM C X0 n 22 2 (laws_markBarS.l2.s.fill v) K :=
  loop_tell hX (fn := Try.f22) (c := bodyOf Try.f22) (a := loopOf Try.f22 2) (li := liOf (C.fi 22).loops 2) (by kernel_rfl) (by kernel_rfl) (of_decide_eq_true rfl) (by kernel_rfl) (by kernel_rfl) (T := laws_markBarS.l2.s) (u := laws_markBarS.l2.u) (fun _ _ h => h) (call := D34) (lp := fun n => noL) (D34_ok hX) (fun n => noL_ok) (fun n v K => by kernel_rfl)
theorem laws_markBarS_ok : ∀ n v K, laws_markBarS.u n v K → callM C X0 n 22 (fillA laws_markBarS.a v) K :=
  call_tell hX (fn := Try.f22) (c := bodyOf Try.f22) (by kernel_rfl) (by kernel_rfl) (A := laws_markBarS.a) (u := laws_markBarS.u) (fun _ _ h => h) (call := D34) (lp := fun n => orL 2 laws_markBarS.l2.s (laws_markBarS.l2.u n) noL) (D34_ok hX) (fun n => (orL_ok (laws_markBarS.l2_ok hX n) noL_ok)) (fun n v K => by kernel_rfl)
def D35 (n : Nat) : CallF := orC 22 laws_markBarS.a (laws_markBarS.u n) (D34 n)
theorem D35_ok : ∀ n g a K, D35 n g a K → callM C X0 n g a K := fun n => orC_ok (laws_markBarS_ok hX n) (D34_ok hX n)
abbrev laws_markSplitS.a : List TS := [.c (.o (.row 120 (.prod (.int .i64) (.prod (.int .i64) (.sl 123 (.prod (.int .i64) (.prod (.int .i64) (.prod (.int .i64) (.sl 155 (.int .u64)))))))) 99)), .c (.o (.int .i64))]
def laws_markSplitS.u (n : Nat) (v : VA laws_markSplitS.a) (K : RES → Prop) : Prop := laws_markSplitS.c n v.1 v.2.1 (fun r0 r1 => K ⟨.c (.int .i64 r0), [[.row ⟨120, .prod (.int .i64) (.prod (.int .i64) (.sl 123 (.prod (.int .i64) (.prod (.int .i64) (.prod (.int .i64) (.sl 155 (.int .u64))))))), r1, 99, none⟩]]⟩)
abbrev laws_markSplitS.l2.s : ST := ⟨[(0, .c (.o (.own 0))), (1, .c (.o (.int .i64))), (5, .c (.o (.int .i64)))], [⟨0, 120, .prod (.int .i64) (.prod (.int .i64) (.sl 123 (.prod (.int .i64) (.prod (.int .i64) (.prod (.int .i64) (.sl 155 (.int .u64))))))), 99⟩], [], [0], []⟩
def laws_markSplitS.l2.u (n : Nat) (v : laws_markSplitS.l2.s.V) (K : X → St → Prop) : Prop := laws_markSplitS.l2 n v.1.2.1 v.1.2.2.1 v.2.1.1 (fun y0 y1 => K (.exit 0) ⟨[(1, .c (.int .i64 y0))], [(0, ⟨120, .prod (.int .i64) (.prod (.int .i64) (.sl 123 (.prod (.int .i64) (.prod (.int .i64) (.prod (.int .i64) (.sl 155 (.int .u64))))))), y1, 99, none⟩)], [], [0], []⟩)
theorem laws_markSplitS.l2_ok : ∀ n v K, laws_markSplitS.l2.u n v K → loopM C X0 n 21 2 (laws_markSplitS.l2.s.fill v) K :=
  loop_tell hX (fn := Try.f21) (c := bodyOf Try.f21) (a := loopOf Try.f21 2) (li := liOf (C.fi 21).loops 2) (by kernel_rfl) (by kernel_rfl) (of_decide_eq_true rfl) (by kernel_rfl) (by kernel_rfl) (T := laws_markSplitS.l2.s) (u := laws_markSplitS.l2.u) (fun _ _ h => h) (call := D35) (lp := fun n => noL) (D35_ok hX) (fun n => noL_ok) (fun n v K => by kernel_rfl)
theorem laws_markSplitS_ok : ∀ n v K, laws_markSplitS.u n v K → callM C X0 n 21 (fillA laws_markSplitS.a v) K :=
  call_tell hX (fn := Try.f21) (c := bodyOf Try.f21) (by kernel_rfl) (by kernel_rfl) (A := laws_markSplitS.a) (u := laws_markSplitS.u) (fun _ _ h => h) (call := D35) (lp := fun n => orL 2 laws_markSplitS.l2.s (laws_markSplitS.l2.u n) noL) (D35_ok hX) (fun n => (orL_ok (laws_markSplitS.l2_ok hX n) noL_ok)) (fun n v K => by kernel_rfl)
def D36 (n : Nat) : CallF := orC 21 laws_markSplitS.a (laws_markSplitS.u n) (D35 n)
theorem D36_ok : ∀ n g a K, D36 n g a K → callM C X0 n g a K := fun n => orC_ok (laws_markSplitS_ok hX n) (D35_ok hX n)
abbrev laws_markUint64S_1.a : List TS := [.c (.o (.row 155 (.int .u64) 98)), .c (.o (.int .i64))]
def laws_markUint64S_1.u (n : Nat) (v : VA laws_markUint64S_1.a) (K : RES → Prop) : Prop := laws_markUint64S_1.c n v.1 v.2.1 (fun r0 r1 => K ⟨.c (.int .i64 r0), [[.row ⟨155, .int .u64, r1, 98, none⟩]]⟩)
abbrev laws_markUint64S_1.l2.s : ST := ⟨[(0, .c (.o (.own 0))), (1, .c (.o (.int .i64))), (5, .c (.o (.int .i64)))], [⟨0, 155, .int .u64, 98⟩], [], [0], []⟩
def laws_markUint64S_1.l2.u (n : Nat) (v : laws_markUint64S_1.l2.s.V) (K : X → St → Prop) : Prop := laws_markUint64S_1.l2 n v.1.2.1 v.1.2.2.1 v.2.1.1 (fun y0 y1 => K (.exit 0) ⟨[(1, .c (.int .i64 y0))], [(0, ⟨155, .int .u64, y1, 98, none⟩)], [], [0], []⟩)
theorem laws_markUint64S_1.l2_ok : ∀ n v K, laws_markUint64S_1.l2.u n v K → loopM C X0 n 82 2 (laws_markUint64S_1.l2.s.fill v) K :=
  loop_tell hX (fn := Try.f82) (c := bodyOf Try.f82) (a := loopOf Try.f82 2) (li := liOf (C.fi 82).loops 2) (by kernel_rfl) (by kernel_rfl) (of_decide_eq_true rfl) (by kernel_rfl) (by kernel_rfl) (T := laws_markUint64S_1.l2.s) (u := laws_markUint64S_1.l2.u) (fun _ _ h => h) (call := D36) (lp := fun n => noL) (D36_ok hX) (fun n => noL_ok) (fun n v K => by kernel_rfl)
theorem laws_markUint64S_1_ok : ∀ n v K, laws_markUint64S_1.u n v K → callM C X0 n 82 (fillA laws_markUint64S_1.a v) K :=
  call_tell hX (fn := Try.f82) (c := bodyOf Try.f82) (by kernel_rfl) (by kernel_rfl) (A := laws_markUint64S_1.a) (u := laws_markUint64S_1.u) (fun _ _ h => h) (call := D36) (lp := fun n => orL 2 laws_markUint64S_1.l2.s (laws_markUint64S_1.l2.u n) noL) (D36_ok hX) (fun n => (orL_ok (laws_markUint64S_1.l2_ok hX n) noL_ok)) (fun n v K => by kernel_rfl)
def D37 (n : Nat) : CallF := orC 82 laws_markUint64S_1.a (laws_markUint64S_1.u n) (D36 n)
theorem D37_ok : ∀ n g a K, D37 n g a K → callM C X0 n g a K := fun n => orC_ok (laws_markUint64S_1_ok hX n) (D36_ok hX n)
abbrev laws_markBarS_1.a : List TS := [.c (.o (.row 123 (.prod (.int .i64) (.prod (.int .i64) (.prod (.int .i64) (.sl 155 (.int .u64))))) 99)), .c (.o (.int .i64))]
def laws_markBarS_1.u (n : Nat) (v : VA laws_markBarS_1.a) (K : RES → Prop) : Prop := laws_markBarS_1.c n v.1 v.2.1 (fun r0 r1 => K ⟨.c (.int .i64 r0), [[.row ⟨123, .prod (.int .i64) (.prod (.int .i64) (.prod (.int .i64) (.sl 155 (.int .u64)))), r1, 99, none⟩]]⟩)
abbrev laws_markBarS_1.l2.s : ST := ⟨[(0, .c (.o (.own 0))), (1, .c (.o (.int .i64))), (5, .c (.o (.int .i64)))], [⟨0, 123, .prod (.int .i64) (.prod (.int .i64) (.prod (.int .i64) (.sl 155 (.int .u64)))), 99⟩], [], [0], []⟩
def laws_markBarS_1.l2.u (n : Nat) (v : laws_markBarS_1.l2.s.V) (K : X → St → Prop) : Prop := laws_markBarS_1.l2 n v.1.2.1 v.1.2.2.1 v.2.1.1 (fun y0 y1 => K (.exit 0) ⟨[(1, .c (.int .i64 y0))], [(0, ⟨123, .prod (.int .i64) (.prod (.int .i64) (.prod (.int .i64) (.sl 155 (.int .u64)))), y1, 99, none⟩)], [], [0], []⟩)
theorem laws_markBarS_1.l2_ok : ∀ n v K, laws_markBarS_1.l2.u n v K → loopM C X0 n 22 2 (laws_markBarS_1.l2.s.fill v) K :=
  loop_tell hX (fn := Try.f22) (c := bodyOf Try.f22) (a := loopOf Try.f22 2) (li := liOf (C.fi 22).loops 2) (by kernel_rfl) (by kernel_rfl) (of_decide_eq_true rfl) (by kernel_rfl) (by kernel_rfl) (T := laws_markBarS_1.l2.s) (u := laws_markBarS_1.l2.u) (fun _ _ h => h) (call := D37) (lp := fun n => noL) (D37_ok hX) (fun n => noL_ok) (fun n v K => by kernel_rfl)
theorem laws_markBarS_1_ok : ∀ n v K, laws_markBarS_1.u n v K → callM C X0 n 22 (fillA laws_markBarS_1.a v) K :=
  call_tell hX (fn := Try.f22) (c := bodyOf Try.f22) (by kernel_rfl) (by kernel_rfl) (A := laws_markBarS_1.a) (u := laws_markBarS_1.u) (fun _ _ h => h) (call := D37) (lp := fun n => orL 2 laws_markBarS_1.l2.s (laws_markBarS_1.l2.u n) noL) (D37_ok hX) (fun n => (orL_ok (laws_markBarS_1.l2_ok hX n) noL_ok)) (fun n v K => by kernel_rfl)
def D38 (n : Nat) : CallF := orC 22 laws_markBarS_1.a (laws_markBarS_1.u n) (D37 n)
theorem D38_ok : ∀ n g a K, D38 n g a K → callM C X0 n g a K := fun n => orC_ok (laws_markBarS_1_ok hX n) (D37_ok hX n)
abbrev laws_heldUint64S.a : List TS := [.c (.o (.dat 155 (.int .u64))), .c (.o (.int .i64))]
def laws_heldUint64S.u (n : Nat) (v : VA laws_heldUint64S.a) (K : RES → Prop) : Prop := laws_heldUint64S.c n v.1 v.2.1 (fun r0 => K ⟨.c (.int .i64 r0), []⟩)
abbrev laws_heldUint64S.l2.s : ST := ⟨[(0, .c (.o (.dat 155 (.int .u64)))), (1, .c (.o (.int .i64))), (5, .c (.o (.int .i64)))], [], [], [], []⟩
def laws_heldUint64S.l2.u (n : Nat) (v : laws_heldUint64S.l2.s.V) (K : X → St → Prop) : Prop := laws_heldUint64S.l2 n v.1.1 v.1.2.1 v.1.2.2.1 (fun y0 => K (.exit 0) ⟨[(1, .c (.int .i64 y0))], [], [], [], []⟩) (fun y0 => K .ret ⟨[(4, .c (.int .i64 y0))], [], [], [], []⟩)
theorem laws_heldUint64S.l2_ok : ∀ n v K, laws_heldUint64S.l2.u n v K → loopM C X0 n 83 2 (laws_heldUint64S.l2.s.fill v) K :=
  loop_tell hX (fn := Try.f83) (c := bodyOf Try.f83) (a := loopOf Try.f83 2) (li := liOf (C.fi 83).loops 2) (by kernel_rfl) (by kernel_rfl) (of_decide_eq_true rfl) (by kernel_rfl) (by kernel_rfl) (T := laws_heldUint64S.l2.s) (u := laws_heldUint64S.l2.u) (fun _ _ h => h) (call := D38) (lp := fun n => noL) (D38_ok hX) (fun n => noL_ok) (fun n v K => by kernel_rfl)
theorem laws_heldUint64S_ok : ∀ n v K, laws_heldUint64S.u n v K → callM C X0 n 83 (fillA laws_heldUint64S.a v) K :=
  call_tell hX (fn := Try.f83) (c := bodyOf Try.f83) (by kernel_rfl) (by kernel_rfl) (A := laws_heldUint64S.a) (u := laws_heldUint64S.u) (fun _ _ h => h) (call := D38) (lp := fun n => orL 2 laws_heldUint64S.l2.s (laws_heldUint64S.l2.u n) noL) (D38_ok hX) (fun n => (orL_ok (laws_heldUint64S.l2_ok hX n) noL_ok)) (fun n v K => by kernel_rfl)
def D39 (n : Nat) : CallF := orC 83 laws_heldUint64S.a (laws_heldUint64S.u n) (D38 n)
theorem D39_ok : ∀ n g a K, D39 n g a K → callM C X0 n g a K := fun n => orC_ok (laws_heldUint64S_ok hX n) (D38_ok hX n)
abbrev laws_heldBarS.a : List TS := [.c (.o (.dat 123 (.prod (.int .i64) (.prod (.int .i64) (.prod (.int .i64) (.sl 155 (.int .u64))))))), .c (.o (.int .i64))]
def laws_heldBarS.u (n : Nat) (v : VA laws_heldBarS.a) (K : RES → Prop) : Prop := laws_heldBarS.c n v.1 v.2.1 (fun r0 => K ⟨.c (.int .i64 r0), []⟩)
abbrev laws_heldBarS.l2.s : ST := ⟨[(0, .c (.o (.dat 123 (.prod (.int .i64) (.prod (.int .i64) (.prod (.int .i64) (.sl 155 (.int .u64)))))))), (1, .c (.o (.int .i64))), (5, .c (.o (.int .i64)))], [], [], [], []⟩
def laws_heldBarS.l2.u (n : Nat) (v : laws_heldBarS.l2.s.V) (K : X → St → Prop) : Prop := laws_heldBarS.l2 n v.1.1 v.1.2.1 v.1.2.2.1 (fun y0 => K (.exit 0) ⟨[(1, .c (.int .i64 y0))], [], [], [], []⟩) (fun y0 => K .ret ⟨[(4, .c (.int .i64 y0))], [], [], [], []⟩)
theorem laws_heldBarS.l2_ok : ∀ n v K, laws_heldBarS.l2.u n v K → loopM C X0 n 23 2 (laws_heldBarS.l2.s.fill v) K :=
  loop_tell hX (fn := Try.f23) (c := bodyOf Try.f23) (a := loopOf Try.f23 2) (li := liOf (C.fi 23).loops 2) (by kernel_rfl) (by kernel_rfl) (of_decide_eq_true rfl) (by kernel_rfl) (by kernel_rfl) (T := laws_heldBarS.l2.s) (u := laws_heldBarS.l2.u) (fun _ _ h => h) (call := D39) (lp := fun n => noL) (D39_ok hX) (fun n => noL_ok) (fun n v K => by kernel_rfl)
theorem laws_heldBarS_ok : ∀ n v K, laws_heldBarS.u n v K → callM C X0 n 23 (fillA laws_heldBarS.a v) K :=
  call_tell hX (fn := Try.f23) (c := bodyOf Try.f23) (by kernel_rfl) (by kernel_rfl) (A := laws_heldBarS.a) (u := laws_heldBarS.u) (fun _ _ h => h) (call := D39) (lp := fun n => orL 2 laws_heldBarS.l2.s (laws_heldBarS.l2.u n) noL) (D39_ok hX) (fun n => (orL_ok (laws_heldBarS.l2_ok hX n) noL_ok)) (fun n v K => by kernel_rfl)
def D40 (n : Nat) : CallF := orC 23 laws_heldBarS.a (laws_heldBarS.u n) (D39 n)
theorem D40_ok : ∀ n g a K, D40 n g a K → callM C X0 n g a K := fun n => orC_ok (laws_heldBarS_ok hX n) (D39_ok hX n)
end
end Go.Vsi
end

section
set_option linter.unusedVariables false
namespace Go.Vsi
open Go.Proofs
section
variable {X0 : CallF} (hX : CallF.Mono X0)
include hX
abbrev laws_FnExactMustBars.a : List TS := [.c (.o (.dat 118 (.prod (.int .i64) (.prod (.int .i64) (.sl 201 (.prod (.int .i64) (.prod (.int .i64) (.prod (.int .i64) (.sl 155 (.int .u64))))))))))]
def laws_FnExactMustBars.u (n : Nat) (v : VA laws_FnExactMustBars.a) (K : RES → Prop) : Prop := laws_FnExactMustBars.c n v.1 (fun r0 => K ⟨.c (.bool r0), []⟩)
abbrev laws_FnExactMustBars.q15.s : ST := ⟨[(0, .c (.o (.dat 118 (.prod (.int .i64) (.prod (.int .i64) (.sl 201 (.prod (.int .i64) (.prod (.int .i64) (.prod (.int .i64) (.sl 155 (.int .u64))))))))))), (4, .c (.o (.own 576))), (6, .c (.o (.own 704))), (42, .c (.o .bool))], [⟨576, 123, .prod (.int .i64) (.prod (.int .i64) (.prod (.int .i64) (.sl 155 (.int .u64)))), 99⟩, ⟨704, 123, .prod (.int .i64) (.prod (.int .i64) (.prod (.int .i64) (.sl 155 (.int .u64)))), 99⟩], [], [], []⟩
def laws_FnExactMustBars.q15.u (n : Nat) (v : laws_FnExactMustBars.q15.s.V) (K : X → St → Prop) : Prop := laws_FnExactMustBars.q15 n v.1.1 v.1.2.2.2.1 v.2.1.1 v.2.1.2.1 (fun y0 => K .ret ⟨[(2, .c (.bool y0))], [], [], [], []⟩) (fun y0 y1 y2 => K .normal ⟨[(0, .c (.dat 118 (.prod (.int .i64) (.prod (.int .i64) (.sl 201 (.prod (.int .i64) (.prod (.int .i64) (.prod (.int .i64) (.sl 155 (.int .u64)))))))) y0)), (4, .c (.own 576)), (6, .c (.own 704))], [(576, ⟨123, .prod (.int .i64) (.prod (.int .i64) (.prod (.int .i64) (.sl 155 (.int .u64)))), y1, 99, none⟩), (704, ⟨123, .prod (.int .i64) (.prod (.int .i64) (.prod (.int .i64) (.sl 155 (.int .u64)))), y2, 99, none⟩)], [], [], []⟩)
theorem laws_FnExactMustBars.q15_ok : ∀ n v K, laws_FnExactMustBars.q15.u n v K → loopM C X0 n 3 1000015 (laws_FnExactMustBars.q15.s.fill v) K :=
  cut_tell hX (fn := Try.f3) (c := bodyOf Try.f3) (a := cutOf Try.f3 15) (li := liOf (C.fi 3).loops 1000015) (by kernel_rfl) (by kernel_rfl) (of_decide_eq_true rfl) (by kernel_rfl) (by kernel_rfl) (T := laws_FnExactMustBars.q15.s) (u := laws_FnExactMustBars.q15.u) (fun _ _ h => h) (call := D40) (lp := fun n => noL) (D40_ok hX) (fun n => noL_ok) (fun n v K => by kernel_rfl)
theorem laws_FnExactMustBars_ok : ∀ n v K, laws_FnExactMustBars.u n v K → callM C X0 n 3 (fillA laws_FnExactMustBars.a v) K :=
  call_tell hX (fn := Try.f3) (c := bodyOf Try.f3) (by kernel_rfl) (by kernel_rfl) (A := laws_FnExactMustBars.a) (u := laws_FnExactMustBars.u) (fun _ _ h => h) (call := D40) (lp := fun n => orL 1000015 laws_FnExactMustBars.q15.s (laws_FnExactMustBars.q15.u n) noL) (D40_ok hX) (fun n => (orL_ok (laws_FnExactMustBars.q15_ok hX n) noL_ok)) (fun n v K => by kernel_rfl)
def D41 (n : Nat) : CallF := orC 3 laws_FnExactMustBars.a (laws_FnExactMustBars.u n) (D40 n)
theorem D41_ok : ∀ n g a K, D41 n g a K → callM C X0 n g a K := fun n => orC_ok (laws_FnExactMustBars_ok hX n) (D40_ok hX n)
end
end Go.Vsi
end
